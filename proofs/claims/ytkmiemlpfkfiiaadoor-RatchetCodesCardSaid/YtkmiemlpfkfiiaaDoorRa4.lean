/- The ratchet: a session's bytes. Conditions: none beyond those that each theorem states. -/
import Derived.Test.YtkmiemlpfkfiiaaDoorRa3
namespace Go.Proofs.YtkmiemlpfkfiiaaDoor
set_option linter.unusedVariables false
set_option linter.unusedSimpArgs false
def recK (a : Kp) : List (BitVec 8) := (a.c ++ Ui a.n) ++ a.k
theorem recK_len (a : Kp) : (recK a).length = 68 := by simp [recK, Dx, a.hc, a.hk]
def G7 (ks : List Kp) : Nat → List (BitVec 8)
  | 0 => []
  | k + 1 => G7 ks k ++ recK (ks.getD k Yl)
theorem N8 (ks : List Kp) : ∀ k, (G7 ks k).length = 68 * k
  | 0 => rfl
  | k + 1 => by rw [G7, List.length_append, N8, recK_len]; omega
def Jn (sb tb : Bool) : BitVec 8 := if sb then (if tb then 3#8 else 1#8) else (if tb then 2#8 else 0#8)
def Ef (s : Ss) : List (BitVec 8) := (((((((((Jn s.sb s.tb :: s.r) ++ s.w) ++ s.o) ++ s.s) ++ s.t) ++ Ui s.n1) ++ Ui s.n2) ++ Ui s.n3) ++ Ui s.ks.length)
def La (s : Ss) : List (BitVec 8) := Ef s ++ G7 s.ks s.ks.length
theorem byteI (x : BitVec 8) : BitVec.ofInt 8 (x.toNat : Int) = x := by
  apply BitVec.eq_of_toNat_eq; rw [BitVec.toNat_ofInt]; have := x.isLt; omega
theorem Qgs {ks : List Kp} (h : Aq ks ks.length = true) {i : Nat} (hi : i < ks.length) : 0 ≤ (ks.getD i Yl).n ∧ (ks.getD i Yl).n ≤ 2147483647 := by
  have h1 : Ju (ks.getD i Yl).n = true := by
    cases e : Ju (ks.getD i Yl).n with
    | true => rfl
    | false => rw [ok_no1 hi e] at h; cases h
  unfold Ju at h1
  rw [Bool.and_eq_true, decide_eq_true_eq, decide_eq_true_eq] at h1
  exact h1
theorem Qcm {s : Ss} (h : Je s = true) : (0 ≤ s.n1 ∧ s.n1 ≤ 2147483647) ∧ (0 ≤ s.n2 ∧ s.n2 ≤ 2147483647) ∧ (0 ≤ s.n3 ∧ s.n3 ≤ 2147483647) ∧ s.ks.length ≤ 2000 ∧ Aq s.ks s.ks.length = true := by
  unfold Je Wx Ju at h
  simp only [Bool.and_eq_true, decide_eq_true_eq] at h
  obtain ⟨⟨⟨h1, h2, h3, h4⟩, _⟩, h5⟩ := h
  exact ⟨h1, h2, h3, by omega, h5⟩
def Pj (s : Ss) : Int := if Je s then 0 else 1
def Qai (s : Ss) : List (BitVec 8) := if Je s then La s else []
theorem errE_t {s : Ss} (h : Je s = true) : Pj s = 0 := by unfold Pj; rw [h]; rfl
theorem errE_f {s : Ss} (h : Je s = false) : Pj s = 1 := by unfold Pj; rw [h]; rfl
theorem encQ_t {s : Ss} (h : Je s = true) : Qai s = La s := by unfold Qai; rw [h]; rfl
theorem encQ_f {s : Ss} (h : Je s = false) : Qai s = [] := by unfold Qai; rw [h]; rfl
theorem Qgx (sb tb : Bool) : (if sb then 1#8 else 0#8) ||| (if tb then 2#8 else 0#8) = Jn sb tb := by cases sb <;> cases tb <;> rfl
theorem encS_len {s : Ss} (h : (Ef s).length = 177) : (La s).length = 177 + 68 * s.ks.length := by unfold La; rw [List.length_append, h, N8]
attribute [local irreducible] Ui recK G7 Ef Jn Je
set_option maxHeartbeats 2000000 in
theorem Qd1 (ra wa oa : List (BitVec 8)) (sb tb : Bool) (sa ta : List (BitVec 8)) (n1 n2 n3 : Int) (vk : Value) (ks : List Kp) (w0 : World)  (hl : ra.length = 32 ∧ wa.length = 32 ∧ oa.length = 32 ∧ sa.length = 32 ∧ ta.length = 32) (hk : RdK (Y3 w0) Jf 65 vk ks) (hn : ks.length ≤ 1048576) (hR : Je (Ss.mk ra wa oa sb tb sa ta n1 n2 n3 ks) = true) : X8 Tryd.prog 20 #[(Value.agg (Qr [ra.map u8, wa.map u8, oa.map u8, [(bl sb)], [(bl tb)], sa.map u8, ta.map u8, [(i64 n1)], [(i64 n2)], [(i64 n3)], [vk]]))] w0 (fun r w1 => ∃ Hs, Xx u8 5 r (La (Ss.mk ra wa oa sb tb sa ta n1 n2 n3 ks)) Hs ∧ Mem w1 (Qo w0) Hs) := by
 refine Zp (args := [(Value.agg (Qr [ra.map u8, wa.map u8, oa.map u8, [(bl sb)], [(bl tb)], sa.map u8, ta.map u8, [(i64 n1)], [(i64 n2)], [(i64 n3)], [vk]]))]) Tryd.func20 rfl Tryd.ntmps20 Tryd.results20 rfl ?_
 have hm0 : Mem w0 (Qo w0) [] := Mem.of_world w0
 obtain ⟨hl1, hl2, hl3, hl4, hl5⟩ := hl
 have hRn := Qcm hR
 dsimp only at hRn
 obtain ⟨hn1, hn2, hn3, hkl, hok⟩ := hRn
 have hflen : (Ef (Ss.mk ra wa oa sb tb sa ta n1 n2 n3 ks)).length = 177 := by simp [Ef, Dx, hl1, hl2, hl3, hl4, hl5]
 refine sR <| Zo rfl (V6 (cs := (Qr [ra.map u8, wa.map u8, oa.map u8, [(bl sb)], [(bl tb)], sa.map u8, ta.map u8, [(i64 n1)], [(i64 n2)], [(i64 n3)], [vk]])) hm0 rfl) ?_
 rintro _ w1 ⟨b1, rfl, _ew1, hm1⟩
 refine Qb rfl (Qd (v := (Value.slice none 0 0)) rfl) ?_
 refine rN (sR ?_)
 refine Qb rfl (Qd (v := (i64 0)) rfl) ?_
 refine rN (Qh (sR ?_))
 refine Qb rfl (Zr (r := 96) Xv rfl (by first | rfl | omega) Lm rfl rfl) <| Qb (v := (bl sb)) rfl (Zd (v := (bl sb)) [ra.map u8, wa.map u8, oa.map u8] [[(bl tb)], sa.map u8, ta.map u8, [(i64 n1)], [(i64 n2)], [(i64 n3)], [vk]] Pn rfl rfl hm1.h0 (Qa (n := 32) (m := 64) (k := 96) (by first | rfl | (rw [List.length_map]; first | omega | (simp; done) | (simp; omega))) (Qa (n := 32) (m := 32) (k := 64) (by first | rfl | (rw [List.length_map]; first | omega | (simp; done) | (simp; omega))) (Qa (n := 32) (m := 0) (k := 32) (by first | rfl | (rw [List.length_map]; first | omega | (simp; done) | (simp; omega))) Qj rfl) rfl) rfl)) <| rN ?_
 refine G8 (J := fun g wv => g 0 = (Value.agg (Qr [ra.map u8, wa.map u8, oa.map u8, [(bl sb)], [(bl tb)], sa.map u8, ta.map u8, [(i64 n1)], [(i64 n2)], [(i64 n3)], [vk]])) ∧ g 1 = (ptr b1 0) ∧ g 2 = (Value.slice none 0 0) ∧ g 3 = (i64 (if sb then 1 else 0)) ∧ g 7 = (bl sb) ∧ Mem wv (Qo w0) [(b1, .cells (Qr [ra.map u8, wa.map u8, oa.map u8, [(bl sb)], [(bl tb)], sa.map u8, ta.map u8, [(i64 n1)], [(i64 n2)], [(i64 n3)], [vk]]) 26 (0, 0))]) ?_ ?_
 · skip
   refine Xy rfl (fun hc2 => ?_) (fun hc2 => ?_)
   ·
     refine Qg <| Qb rfl (Qc (v := (i64 0)) rfl) <| Qb (v := (i64 1)) rfl (Qk (a := 0) (b := 1) rfl rfl oM oM) <| Qb rfl (Qd (v := (i64 1)) rfl) <| rN ?_
     exact ⟨rfl, rfl, rfl, (Eq.trans rfl (congrArg i64 (by simp [hc2]))), rfl, hm1⟩
   ·
     refine Zc (Qi ?_)
     exact ⟨rfl, rfl, rfl, (Eq.trans rfl (congrArg i64 (by simp [hc2]))), rfl, hm1⟩
 · rintro fr3 w4 ⟨s0, s1, s2, s3, s7, hm4⟩
   refine Qh (sR ?_)
   refine Qb rfl (Zr (r := 97) Xv rfl (by first | rfl | omega) Lm rfl s1) <| Qb (v := (bl tb)) rfl (Zd (v := (bl tb)) [ra.map u8, wa.map u8, oa.map u8, [(bl sb)]] [sa.map u8, ta.map u8, [(i64 n1)], [(i64 n2)], [(i64 n3)], [vk]] Pn rfl rfl hm4.h0 (Qa (n := 32) (m := 65) (k := 97) (by first | rfl | (rw [List.length_map]; first | omega | (simp; done) | (simp; omega))) (Qa (n := 32) (m := 33) (k := 65) (by first | rfl | (rw [List.length_map]; first | omega | (simp; done) | (simp; omega))) (Qa (n := 32) (m := 1) (k := 33) (by first | rfl | (rw [List.length_map]; first | omega | (simp; done) | (simp; omega))) (Qa (n := 1) (m := 0) (k := 1) rfl Qj rfl) rfl) rfl) rfl)) <| rN ?_
   refine G8 (J := fun g wv => g 0 = (Value.agg (Qr [ra.map u8, wa.map u8, oa.map u8, [(bl sb)], [(bl tb)], sa.map u8, ta.map u8, [(i64 n1)], [(i64 n2)], [(i64 n3)], [vk]])) ∧ g 1 = (ptr b1 0) ∧ g 2 = (Value.slice none 0 0) ∧ g 3 = (i64 ((Jn sb tb).toNat : Int)) ∧ g 7 = (bl sb) ∧ g 11 = (bl tb) ∧ Mem wv (Qo w0) [(b1, .cells (Qr [ra.map u8, wa.map u8, oa.map u8, [(bl sb)], [(bl tb)], sa.map u8, ta.map u8, [(i64 n1)], [(i64 n2)], [(i64 n3)], [vk]]) 26 (0, 0))]) ?_ ?_
   · skip
     refine Xy rfl (fun hc5 => ?_) (fun hc5 => ?_)
     ·
       refine Qg <| rM rfl s3 <| Qb rfl (Qk (b := 2) rfl rfl oM oM) <| Qb rfl (Qd (v := (i64 ((if sb then 1 else 0) + 2))) rfl) <| rN ?_
       exact ⟨s0, s1, s2, (Eq.trans rfl (congrArg i64 (by cases sb <;> cases tb <;> first | rfl | simp_all [Jn]))), s7, rfl, hm4⟩
     ·
       refine Zc (Qi ?_)
       exact ⟨s0, s1, s2, (Eq.trans s3 (congrArg i64 (by cases sb <;> cases tb <;> first | rfl | simp_all [Jn]))), s7, rfl, hm4⟩
   · rintro fr6 w7 ⟨s0, s1, s2, s3, s7, s11, hm7⟩
     refine Qh ?_
     have hfn : (Jn sb tb).toNat ≤ 3 := by unfold Jn; cases sb <;> cases tb <;> decide
     refine Qg <| rM rfl s3 <| Qb rfl (Wp ⟨_, Gj⟩ Vh rfl) <| Zo rfl (Xd u8 [BitVec.ofInt 8 ((Jn sb tb).toNat : Int)] Q8 hm7 Z4 Yq rfl rfl rfl) ?_
     rintro _ w8 ⟨b16, rfl, _ew8, hm8⟩
     refine Qb rfl (Qd (v := (Jt b16 0 1 1)) rfl) ?_
     refine rN (sR ?_)
     refine Qb rfl (Qc (v := (Jt b16 0 1 1)) rfl) <| Qb rfl (Zr (r := 0) Xv rfl (by first | rfl | omega) Z5 rfl s1) <| Qb rfl (Xg (i := 0) (j := 32) Xo Yq rfl (Zn _ _) (Zn _ _) oM sL sL) <| Zo rfl (Xt (f := u8) (Hs := [(b16, .cells (cl u8 ([BitVec.ofInt 8 ((Jn sb tb).toNat : Int)])) 5 (0, 0))]) (H := [(b1, .cells (Qr [ra.map u8, wa.map u8, oa.map u8, [(bl sb)], [(bl tb)], sa.map u8, ta.map u8, [(i64 n1)], [(i64 n2)], [(i64 n3)], [vk]]) 26 (0, 0))]) hm8 (Xx.of u8 5 b16 ([BitVec.ofInt 8 ((Jn sb tb).toNat : Int)])) rfl rfl (Rd.segA [] [wa.map u8, oa.map u8, [(bl sb)], [(bl tb)], sa.map u8, ta.map u8, [(i64 n1)], [(i64 n2)], [(i64 n3)], [vk]] hm8.h1 Qj sL (by decide) (by decide)) Z4 Z4 Yq rfl Q8 sL sL) ?_
     rintro sv9 w9 ⟨Hs9, hm9, g9⟩
     replace g9 : Xx u8 5 sv9 (([BitVec.ofInt 8 ((Jn sb tb).toNat : Int)]) ++ ra) Hs9 := g9
     refine rA rfl (v := sv9) rfl ?_
     refine rN (sR ?_)
     refine rM rfl (v := sv9) rfl <| Qb rfl (Zr (r := 32) Xv rfl (by first | rfl | omega) Z5 rfl s1) <| Qb rfl (Xg (i := 0) (j := 32) Xo Yq rfl (Zn _ _) (Zn _ _) oM sL sL) <| Zo rfl (Xt (f := u8) (Hs := Hs9) (H := [(b1, .cells (Qr [ra.map u8, wa.map u8, oa.map u8, [(bl sb)], [(bl tb)], sa.map u8, ta.map u8, [(i64 n1)], [(i64 n2)], [(i64 n3)], [vk]]) 26 (0, 0))]) hm9 g9 rfl rfl (Rd.segA [ra.map u8] [oa.map u8, [(bl sb)], [(bl tb)], sa.map u8, ta.map u8, [(i64 n1)], [(i64 n2)], [(i64 n3)], [vk]] ((Mem.pick Hs9 [_] _ hm9)).h0 (Qa (n := 32) (m := 0) (k := 32) (by first | rfl | (rw [List.length_map]; first | omega | (simp; done) | (simp; omega))) Qj rfl) sL (by decide) (by decide)) Z4 Z4 Yq rfl Q8 sL sL) ?_
     rintro sv10 w10 ⟨Hs10, hm10, g10⟩
     replace g10 : Xx u8 5 sv10 ((([BitVec.ofInt 8 ((Jn sb tb).toNat : Int)]) ++ ra) ++ wa) Hs10 := g10
     refine rA rfl (v := sv10) rfl ?_
     refine rN (sR ?_)
     refine rM rfl (v := sv10) rfl <| Qb rfl (Zr (r := 64) Xv rfl (by first | rfl | omega) Z5 rfl s1) <| Qb rfl (Xg (i := 0) (j := 32) Xo Yq rfl (Zn _ _) (Zn _ _) oM sL sL) <| Zo rfl (Xt (f := u8) (Hs := Hs10) (H := [(b1, .cells (Qr [ra.map u8, wa.map u8, oa.map u8, [(bl sb)], [(bl tb)], sa.map u8, ta.map u8, [(i64 n1)], [(i64 n2)], [(i64 n3)], [vk]]) 26 (0, 0))]) hm10 g10 rfl rfl (Rd.segA [ra.map u8, wa.map u8] [[(bl sb)], [(bl tb)], sa.map u8, ta.map u8, [(i64 n1)], [(i64 n2)], [(i64 n3)], [vk]] ((Mem.pick Hs10 [_] _ hm10)).h0 (Qa (n := 32) (m := 32) (k := 64) (by first | rfl | (rw [List.length_map]; first | omega | (simp; done) | (simp; omega))) (Qa (n := 32) (m := 0) (k := 32) (by first | rfl | (rw [List.length_map]; first | omega | (simp; done) | (simp; omega))) Qj rfl) rfl) sL (by decide) (by decide)) Z4 Z4 Yq rfl Q8 sL sL) ?_
     rintro sv11 w11 ⟨Hs11, hm11, g11⟩
     replace g11 : Xx u8 5 sv11 (((([BitVec.ofInt 8 ((Jn sb tb).toNat : Int)]) ++ ra) ++ wa) ++ oa) Hs11 := g11
     refine rA rfl (v := sv11) rfl <| rN ?_
     refine CW.abs (fun g => g 0 = (Value.agg (Qr [ra.map u8, wa.map u8, oa.map u8, [(bl sb)], [(bl tb)], sa.map u8, ta.map u8, [(i64 n1)], [(i64 n2)], [(i64 n3)], [vk]])) ∧ g 1 = (ptr b1 0) ∧ g 2 = (Value.slice none 0 0) ∧ g 3 = (i64 ((Jn sb tb).toNat : Int)) ∧ g 4 = sv11 ∧ g 7 = (bl sb) ∧ g 11 = (bl tb) ∧ True) ⟨s0, s1, s2, s3, rfl, s7, s11, trivial⟩ ?_
     rintro fr12 ⟨s0, s1, s2, s3, s4, s7, s11, _⟩
     refine sR <| rM rfl s4 <| Qb rfl (Zr (r := 98) Xv rfl (by first | rfl | omega) Z5 rfl s1) <| Qb rfl (Xg (i := 0) (j := 32) Xo Yq rfl (Zn _ _) (Zn _ _) oM sL sL) <| Zo rfl (Xt (f := u8) (Hs := Hs11) (H := [(b1, .cells (Qr [ra.map u8, wa.map u8, oa.map u8, [(bl sb)], [(bl tb)], sa.map u8, ta.map u8, [(i64 n1)], [(i64 n2)], [(i64 n3)], [vk]]) 26 (0, 0))]) hm11 g11 rfl rfl (Rd.segA [ra.map u8, wa.map u8, oa.map u8, [(bl sb)], [(bl tb)]] [ta.map u8, [(i64 n1)], [(i64 n2)], [(i64 n3)], [vk]] ((Mem.pick Hs11 [_] _ hm11)).h0 (Qa (n := 32) (m := 66) (k := 98) (by first | rfl | (rw [List.length_map]; first | omega | (simp; done) | (simp; omega))) (Qa (n := 32) (m := 34) (k := 66) (by first | rfl | (rw [List.length_map]; first | omega | (simp; done) | (simp; omega))) (Qa (n := 32) (m := 2) (k := 34) (by first | rfl | (rw [List.length_map]; first | omega | (simp; done) | (simp; omega))) (Qa (n := 1) (m := 1) (k := 2) rfl (Qa (n := 1) (m := 0) (k := 1) rfl Qj rfl) rfl) rfl) rfl) rfl) sL (by decide) (by decide)) Z4 Z4 Yq rfl Q8 sL sL) ?_
     rintro sv13 w13 ⟨Hs13, hm13, g13⟩
     replace g13 : Xx u8 5 sv13 ((((([BitVec.ofInt 8 ((Jn sb tb).toNat : Int)]) ++ ra) ++ wa) ++ oa) ++ sa) Hs13 := g13
     refine rA rfl (v := sv13) rfl ?_
     refine rN (sR ?_)
     refine rM rfl (v := sv13) rfl <| Qb rfl (Zr (r := 130) Xv rfl (by first | rfl | omega) Z5 rfl s1) <| Qb rfl (Xg (i := 0) (j := 32) Xo Yq rfl (Zn _ _) (Zn _ _) oM sL sL) <| Zo rfl (Xt (f := u8) (Hs := Hs13) (H := [(b1, .cells (Qr [ra.map u8, wa.map u8, oa.map u8, [(bl sb)], [(bl tb)], sa.map u8, ta.map u8, [(i64 n1)], [(i64 n2)], [(i64 n3)], [vk]]) 26 (0, 0))]) hm13 g13 rfl rfl (Rd.segA [ra.map u8, wa.map u8, oa.map u8, [(bl sb)], [(bl tb)], sa.map u8] [[(i64 n1)], [(i64 n2)], [(i64 n3)], [vk]] ((Mem.pick Hs13 [_] _ hm13)).h0 (Qa (n := 32) (m := 98) (k := 130) (by first | rfl | (rw [List.length_map]; first | omega | (simp; done) | (simp; omega))) (Qa (n := 32) (m := 66) (k := 98) (by first | rfl | (rw [List.length_map]; first | omega | (simp; done) | (simp; omega))) (Qa (n := 32) (m := 34) (k := 66) (by first | rfl | (rw [List.length_map]; first | omega | (simp; done) | (simp; omega))) (Qa (n := 1) (m := 33) (k := 34) rfl (Qa (n := 1) (m := 32) (k := 33) rfl (Qa (n := 32) (m := 0) (k := 32) (by first | rfl | (rw [List.length_map]; first | omega | (simp; done) | (simp; omega))) Qj rfl) rfl) rfl) rfl) rfl) rfl) sL (by decide) (by decide)) Z4 Z4 Yq rfl Q8 sL sL) ?_
     rintro sv14 w14 ⟨Hs14, hm14, g14⟩
     replace g14 : Xx u8 5 sv14 (((((([BitVec.ofInt 8 ((Jn sb tb).toNat : Int)]) ++ ra) ++ wa) ++ oa) ++ sa) ++ ta) Hs14 := g14
     refine rA rfl (v := sv14) rfl ?_
     refine rN (Qh ?_)
     refine Kz (by kernel_rfl) ?_
     have hFM15 : Mem w14 (Qo w0) ((Hs14 ++ ([])) ++ [(b1, .cells (Qr [ra.map u8, wa.map u8, oa.map u8, [(bl sb)], [(bl tb)], sa.map u8, ta.map u8, [(i64 n1)], [(i64 n2)], [(i64 n3)], [vk]]) 26 (0, 0))]) := (by
       have hT := hm14
       try simp only [List.append_assoc, List.cons_append, List.nil_append, List.append_nil] at hT ⊢
       exact hT)
     obtain ⟨RM15, hRM15⟩ : ∃ R2, R2 = Rest.add (Qo w0) [(b1, .cells (Qr [ra.map u8, wa.map u8, oa.map u8, [(bl sb)], [(bl tb)], sa.map u8, ta.map u8, [(i64 n1)], [(i64 n2)], [(i64 n3)], [vk]]) 26 (0, 0))] := ⟨_, rfl⟩
     have M150 : Mem w14 RM15 (Hs14 ++ ([])) := by rw [hRM15]; exact Mem.give hFM15
     have ho16 : RM15.blk b1 = some (.cells (Qr [ra.map u8, wa.map u8, oa.map u8, [(bl sb)], [(bl tb)], sa.map u8, ta.map u8, [(i64 n1)], [(i64 n2)], [(i64 n3)], [vk]]) 26 (0, 0)) := by rw [hRM15]; exact Mem.addOwn hFM15 (List.Mem.head _)
     have hr17 : RdK RM15.blk Jf 65 vk ks := by rw [hRM15]; exact RdK.mono hk fun b o e => Mem.addRest hFM15 e
     refine Uc M150 [(0, false), (1, false), (2, false), (4, false), (5, false), (7, false), (8, false), (10, false), (11, false), (12, false), (3, true), (6, true), (9, true)] 13 rfl (by kernel_rfl) <| Jd rfl rfl (fun w _H _hx => Qc (v := sv14) rfl) <| Jd rfl rfl (fun w _H _hx => Zr (r := 162) Xv rfl (by first | rfl | omega) Uz rfl s1) <| Jd (v := (i64 n1)) rfl rfl (fun w _H _hx => Zd (v := (i64 n1)) [ra.map u8, wa.map u8, oa.map u8, [(bl sb)], [(bl tb)], sa.map u8, ta.map u8] [[(i64 n2)], [(i64 n3)], [vk]] Gj rfl rfl (_hx.rest _ _ ho16) (Qa (n := 32) (m := 130) (k := 162) (by first | rfl | (rw [List.length_map]; first | omega | (simp; done) | (simp; omega))) (Qa (n := 32) (m := 98) (k := 130) (by first | rfl | (rw [List.length_map]; first | omega | (simp; done) | (simp; omega))) (Qa (n := 32) (m := 66) (k := 98) (by first | rfl | (rw [List.length_map]; first | omega | (simp; done) | (simp; omega))) (Qa (n := 1) (m := 65) (k := 66) rfl (Qa (n := 1) (m := 64) (k := 65) rfl (Qa (n := 32) (m := 32) (k := 64) (by first | rfl | (rw [List.length_map]; first | omega | (simp; done) | (simp; omega))) (Qa (n := 32) (m := 0) (k := 32) (by first | rfl | (rw [List.length_map]; first | omega | (simp; done) | (simp; omega))) Qj rfl) rfl) rfl) rfl) rfl) rfl) rfl)) <| Jd rfl rfl (fun w _H _hx => Zr (r := 163) Xv rfl (by first | rfl | omega) Uz rfl s1) <| Jd (v := (i64 n2)) rfl rfl (fun w _H _hx => Zd (v := (i64 n2)) [ra.map u8, wa.map u8, oa.map u8, [(bl sb)], [(bl tb)], sa.map u8, ta.map u8, [(i64 n1)]] [[(i64 n3)], [vk]] Gj rfl rfl (_hx.rest _ _ ho16) (Qa (n := 32) (m := 131) (k := 163) (by first | rfl | (rw [List.length_map]; first | omega | (simp; done) | (simp; omega))) (Qa (n := 32) (m := 99) (k := 131) (by first | rfl | (rw [List.length_map]; first | omega | (simp; done) | (simp; omega))) (Qa (n := 32) (m := 67) (k := 99) (by first | rfl | (rw [List.length_map]; first | omega | (simp; done) | (simp; omega))) (Qa (n := 1) (m := 66) (k := 67) rfl (Qa (n := 1) (m := 65) (k := 66) rfl (Qa (n := 32) (m := 33) (k := 65) (by first | rfl | (rw [List.length_map]; first | omega | (simp; done) | (simp; omega))) (Qa (n := 32) (m := 1) (k := 33) (by first | rfl | (rw [List.length_map]; first | omega | (simp; done) | (simp; omega))) (Qa (n := 1) (m := 0) (k := 1) rfl Qj rfl) rfl) rfl) rfl) rfl) rfl) rfl) rfl)) <| Jd rfl rfl (fun w _H _hx => Zr (r := 164) Xv rfl (by first | rfl | omega) Uz rfl s1) <| Jd (v := (i64 n3)) rfl rfl (fun w _H _hx => Zd (v := (i64 n3)) [ra.map u8, wa.map u8, oa.map u8, [(bl sb)], [(bl tb)], sa.map u8, ta.map u8, [(i64 n1)], [(i64 n2)]] [[vk]] Gj rfl rfl (_hx.rest _ _ ho16) (Qa (n := 32) (m := 132) (k := 164) (by first | rfl | (rw [List.length_map]; first | omega | (simp; done) | (simp; omega))) (Qa (n := 32) (m := 100) (k := 132) (by first | rfl | (rw [List.length_map]; first | omega | (simp; done) | (simp; omega))) (Qa (n := 32) (m := 68) (k := 100) (by first | rfl | (rw [List.length_map]; first | omega | (simp; done) | (simp; omega))) (Qa (n := 1) (m := 67) (k := 68) rfl (Qa (n := 1) (m := 66) (k := 67) rfl (Qa (n := 32) (m := 34) (k := 66) (by first | rfl | (rw [List.length_map]; first | omega | (simp; done) | (simp; omega))) (Qa (n := 32) (m := 2) (k := 34) (by first | rfl | (rw [List.length_map]; first | omega | (simp; done) | (simp; omega))) (Qa (n := 1) (m := 1) (k := 2) rfl (Qa (n := 1) (m := 0) (k := 1) rfl Qj rfl) rfl) rfl) rfl) rfl) rfl) rfl) rfl) rfl)) <| Jd rfl rfl (fun w _H _hx => Zr (r := 165) Xv rfl (by first | rfl | omega) U6 rfl s1) <| Jd (v := vk) rfl rfl (fun w _H _hx => Zd (v := vk) [ra.map u8, wa.map u8, oa.map u8, [(bl sb)], [(bl tb)], sa.map u8, ta.map u8, [(i64 n1)], [(i64 n2)], [(i64 n3)]] [] We rfl rfl (_hx.rest _ _ ho16) (Qa (n := 32) (m := 133) (k := 165) (by first | rfl | (rw [List.length_map]; first | omega | (simp; done) | (simp; omega))) (Qa (n := 32) (m := 101) (k := 133) (by first | rfl | (rw [List.length_map]; first | omega | (simp; done) | (simp; omega))) (Qa (n := 32) (m := 69) (k := 101) (by first | rfl | (rw [List.length_map]; first | omega | (simp; done) | (simp; omega))) (Qa (n := 1) (m := 68) (k := 69) rfl (Qa (n := 1) (m := 67) (k := 68) rfl (Qa (n := 32) (m := 35) (k := 67) (by first | rfl | (rw [List.length_map]; first | omega | (simp; done) | (simp; omega))) (Qa (n := 32) (m := 3) (k := 35) (by first | rfl | (rw [List.length_map]; first | omega | (simp; done) | (simp; omega))) (Qa (n := 1) (m := 2) (k := 3) rfl (Qa (n := 1) (m := 1) (k := 2) rfl (Qa (n := 1) (m := 0) (k := 1) rfl Qj rfl) rfl) rfl) rfl) rfl) rfl) rfl) rfl) rfl) rfl)) <| Jd (v := (i64 (ks.length : Int))) rfl rfl (fun w _H _hx => Vz (RdK.ofRest hr17 _hx) We rfl) ?_
     refine Rt rfl rfl (fun w18 _ew18 => ?_)
     have hm18 := M150.ext _ew18
     have hF20 : Mem w18 RM15 ((Hs14 ++ ([])) ++ ([])) := by
       have hT := hm18
       try simp only [List.append_assoc, List.cons_append, List.nil_append, List.append_nil] at hT ⊢
       exact hT
     refine Jr.mono (Qx Tryd.func45 bd45 nm45 (Yk rfl rfl) (Qc5 sv14 (((((([BitVec.ofInt 8 ((Jn sb tb).toNat : Int)]) ++ ra) ++ wa) ++ oa) ++ sa) ++ ta) Hs14 n1 _ _ (Mem.give hF20) g14 sL sL)) ?_
     rintro rq21 w19 ⟨Hsq21, grq21, k_w19⟩
     have hm19 : Mem w19 RM15 (Hsq21 ++ ([])) := (by
       have hT := Mem.back hF20 k_w19
       try simp only [List.append_assoc, List.cons_append, List.nil_append, List.append_nil] at hT ⊢
       exact hT)
     refine ⟨⟨_, hm19⟩, ?_⟩
     refine Rt rfl rfl (fun w22 _ew22 => ?_)
     have hm22 := hm19.ext _ew22
     have hF24 : Mem w22 RM15 ((Hsq21 ++ ([])) ++ ([])) := by
       have hT := hm22
       try simp only [List.append_assoc, List.cons_append, List.nil_append, List.append_nil] at hT ⊢
       exact hT
     refine Jr.mono (Qx Tryd.func45 bd45 nm45 (Yk rfl rfl) (Qc5 rq21 ((((((([BitVec.ofInt 8 ((Jn sb tb).toNat : Int)]) ++ ra) ++ wa) ++ oa) ++ sa) ++ ta) ++ Ui n1) Hsq21 n2 _ _ (Mem.give hF24) grq21 sL sL)) ?_
     rintro rq25 w23 ⟨Hsq25, grq25, k_w23⟩
     have hm23 : Mem w23 RM15 (Hsq25 ++ ([])) := (by
       have hT := Mem.back hF24 k_w23
       try simp only [List.append_assoc, List.cons_append, List.nil_append, List.append_nil] at hT ⊢
       exact hT)
     refine ⟨⟨_, hm23⟩, ?_⟩
     refine Rt rfl rfl (fun w26 _ew26 => ?_)
     have hm26 := hm23.ext _ew26
     have hF28 : Mem w26 RM15 ((Hsq25 ++ ([])) ++ ([])) := by
       have hT := hm26
       try simp only [List.append_assoc, List.cons_append, List.nil_append, List.append_nil] at hT ⊢
       exact hT
     refine Jr.mono (Qx Tryd.func45 bd45 nm45 (Yk rfl rfl) (Qc5 rq25 (((((((([BitVec.ofInt 8 ((Jn sb tb).toNat : Int)]) ++ ra) ++ wa) ++ oa) ++ sa) ++ ta) ++ Ui n1) ++ Ui n2) Hsq25 n3 _ _ (Mem.give hF28) grq25 sL sL)) ?_
     rintro rq29 w27 ⟨Hsq29, grq29, k_w27⟩
     have hm27 : Mem w27 RM15 (Hsq29 ++ ([])) := (by
       have hT := Mem.back hF28 k_w27
       try simp only [List.append_assoc, List.cons_append, List.nil_append, List.append_nil] at hT ⊢
       exact hT)
     refine ⟨⟨_, hm27⟩, ?_⟩
     refine X3 (fun w30 _ew30 => ?_)
     have hm30 := hm27.ext _ew30
     have hX31 := hm30
     rw [hRM15] at hX31
     have hm32 : Mem w30 (Qo w0) (Hsq29 ++ ([(b1, .cells (Qr [ra.map u8, wa.map u8, oa.map u8, [(bl sb)], [(bl tb)], sa.map u8, ta.map u8, [(i64 n1)], [(i64 n2)], [(i64 n3)], [vk]]) 26 (0, 0))])) := (by
       have hT := Mem.back hFM15 hX31
       try simp only [List.append_assoc, List.cons_append, List.nil_append, List.append_nil] at hT ⊢
       exact hT)
     have hF34 : Mem w30 (Qo w0) ((Hsq29 ++ ([])) ++ ([(b1, .cells (Qr [ra.map u8, wa.map u8, oa.map u8, [(bl sb)], [(bl tb)], sa.map u8, ta.map u8, [(i64 n1)], [(i64 n2)], [(i64 n3)], [vk]]) 26 (0, 0))])) := by
       have hT := hm32
       try simp only [List.append_assoc, List.cons_append, List.nil_append, List.append_nil] at hT ⊢
       exact hT
     refine Zo rfl (Qx Tryd.func45 bd45 nm45 (Yk rfl rfl) (Qc5 rq29 ((((((((([BitVec.ofInt 8 ((Jn sb tb).toNat : Int)]) ++ ra) ++ wa) ++ oa) ++ sa) ++ ta) ++ Ui n1) ++ Ui n2) ++ Ui n3) Hsq29 (ks.length : Int) _ _ (Mem.give hF34) grq29 sL sL)) ?_
     rintro rq35 w33 ⟨Hsq35, grq35, k_w33⟩
     have hm33 : Mem w33 (Qo w0) (Hsq35 ++ ([(b1, .cells (Qr [ra.map u8, wa.map u8, oa.map u8, [(bl sb)], [(bl tb)], sa.map u8, ta.map u8, [(i64 n1)], [(i64 n2)], [(i64 n3)], [vk]]) 26 (0, 0))])) := (by
       have hT := Mem.back hF34 k_w33
       try simp only [List.append_assoc, List.cons_append, List.nil_append, List.append_nil] at hT ⊢
       exact hT)
     refine rA rfl (v := rq35) rfl <| rN ?_
     refine CW.abs (fun g => g 0 = (Value.agg (Qr [ra.map u8, wa.map u8, oa.map u8, [(bl sb)], [(bl tb)], sa.map u8, ta.map u8, [(i64 n1)], [(i64 n2)], [(i64 n3)], [vk]])) ∧ g 1 = (ptr b1 0) ∧ g 2 = (Value.slice none 0 0) ∧ g 3 = (i64 ((Jn sb tb).toNat : Int)) ∧ g 4 = rq35 ∧ g 7 = (bl sb) ∧ g 11 = (bl tb) ∧ True) ⟨s0, s1, s2, s3, rfl, s7, s11, trivial⟩ ?_
     rintro fr36 ⟨s0, s1, s2, s3, s4, s7, s11, _⟩
     refine Qh (sR ?_)
     refine Qb rfl (Qd (v := (i64 0)) rfl) ?_
     refine rN (Qv ?_)
     refine Jg (fun g wv => ∃ (i : Nat) (sv : Value) (Ho : List (Nat × Obj)), (i ≤ ks.length) ∧ (Xx u8 5 sv (Ef (Ss.mk ra wa oa sb tb sa ta n1 n2 n3 ks) ++ G7 ks i) Ho) ∧ g 0 = (Value.agg (Qr [ra.map u8, wa.map u8, oa.map u8, [(bl sb)], [(bl tb)], sa.map u8, ta.map u8, [(i64 n1)], [(i64 n2)], [(i64 n3)], [vk]])) ∧ g 1 = (ptr b1 0) ∧ g 2 = (Value.slice none 0 0) ∧ g 3 = (i64 ((Jn sb tb).toNat : Int)) ∧ g 4 = sv ∧ g 5 = (i64 (i : Int)) ∧ g 7 = (bl sb) ∧ g 11 = (bl tb) ∧ Mem wv (Qo w0) (Ho ++ ([(b1, .cells (Qr [ra.map u8, wa.map u8, oa.map u8, [(bl sb)], [(bl tb)], sa.map u8, ta.map u8, [(i64 n1)], [(i64 n2)], [(i64 n3)], [vk]]) 26 (0, 0))]))) (fun g wv => ((ks.length : Int) - RowKit.intOf (g 5)).toNat) ?_ ?_
     · exact ⟨0, rq35, Hsq35, oM, (Xx.cast grq35 (by rw [G7, List.append_nil]; first | (simp only [Ef, byteI]; done) | simp only [Ef, byteI, List.cons_append, List.nil_append])), s0, s1, s2, s3, s4, rfl, s7, s11, (by
       have hT := hm33
       try simp only [List.append_assoc, List.cons_append, List.nil_append, List.append_nil] at hT ⊢
       exact hT)⟩
     · rintro fr37 w38 ⟨i, sv, Ho, hi, go, s0, s1, s2, s3, s4, s5, s7, s11, hm38⟩
       have z5 := s5
       have z4 := s4
       have hkc := (ks.getD i Yl).hc; have hkk := (ks.getD i Yl).hk; have hel := N8 ks i
       refine Qh (sR ?_)
       refine rM rfl s5 <| Qb rfl (Zr (r := 165) Xv rfl (by first | rfl | omega) U6 rfl s1) <| Qb (v := vk) rfl (Zd (v := vk) [ra.map u8, wa.map u8, oa.map u8, [(bl sb)], [(bl tb)], sa.map u8, ta.map u8, [(i64 n1)], [(i64 n2)], [(i64 n3)]] [] We rfl rfl ((Mem.pick Ho [_] _ hm38)).h0 (Qa (n := 32) (m := 133) (k := 165) (by first | rfl | (rw [List.length_map]; first | omega | (simp; done) | (simp; omega))) (Qa (n := 32) (m := 101) (k := 133) (by first | rfl | (rw [List.length_map]; first | omega | (simp; done) | (simp; omega))) (Qa (n := 32) (m := 69) (k := 101) (by first | rfl | (rw [List.length_map]; first | omega | (simp; done) | (simp; omega))) (Qa (n := 1) (m := 68) (k := 69) rfl (Qa (n := 1) (m := 67) (k := 68) rfl (Qa (n := 32) (m := 35) (k := 67) (by first | rfl | (rw [List.length_map]; first | omega | (simp; done) | (simp; omega))) (Qa (n := 32) (m := 3) (k := 35) (by first | rfl | (rw [List.length_map]; first | omega | (simp; done) | (simp; omega))) (Qa (n := 1) (m := 2) (k := 3) rfl (Qa (n := 1) (m := 1) (k := 2) rfl (Qa (n := 1) (m := 0) (k := 1) rfl Qj rfl) rfl) rfl) rfl) rfl) rfl) rfl) rfl) rfl) rfl)) <| Qb (v := (i64 (ks.length : Int))) rfl (Vz (RdK.ofRest hk hm38) We rfl) <| Qb rfl (Qs rfl rfl) <| rN ?_
       refine Xy rfl (fun hc39 => ?_) (fun hc39 => ?_)
       ·
         have hc39p := of_decide_eq_true hc39
         have hkn := Qgs hok (i := i) oM; have hn4 := Dx (ks.getD i Yl).n
         refine Zc (Qi (Qh (Qv (sR ?_))))
         refine rM rfl s4 <| Qb rfl (Zr (r := 165) Xv rfl (by first | rfl | omega) U6 rfl s1) <| Qb (v := vk) rfl (Zd (v := vk) [ra.map u8, wa.map u8, oa.map u8, [(bl sb)], [(bl tb)], sa.map u8, ta.map u8, [(i64 n1)], [(i64 n2)], [(i64 n3)]] [] We rfl rfl ((Mem.pick Ho [_] _ hm38)).h0 (Qa (n := 32) (m := 133) (k := 165) (by first | rfl | (rw [List.length_map]; first | omega | (simp; done) | (simp; omega))) (Qa (n := 32) (m := 101) (k := 133) (by first | rfl | (rw [List.length_map]; first | omega | (simp; done) | (simp; omega))) (Qa (n := 32) (m := 69) (k := 101) (by first | rfl | (rw [List.length_map]; first | omega | (simp; done) | (simp; omega))) (Qa (n := 1) (m := 68) (k := 69) rfl (Qa (n := 1) (m := 67) (k := 68) rfl (Qa (n := 32) (m := 35) (k := 67) (by first | rfl | (rw [List.length_map]; first | omega | (simp; done) | (simp; omega))) (Qa (n := 32) (m := 3) (k := 35) (by first | rfl | (rw [List.length_map]; first | omega | (simp; done) | (simp; omega))) (Qa (n := 1) (m := 2) (k := 3) rfl (Qa (n := 1) (m := 1) (k := 2) rfl (Qa (n := 1) (m := 0) (k := 1) rfl Qj rfl) rfl) rfl) rfl) rfl) rfl) rfl) rfl) rfl) rfl)) <| rM rfl s5 <| Qb rfl (Yy (i := (i : Int)) (RdK.ofRest hk hm38) We F6 rfl rfl oM sL) <| Qb rfl (Ez (i := (i : Int)) (RdK.ofRest hk hm38) sL Cc rfl (by first | rfl | omega) Z5 rfl rfl) <| Qb rfl (Pz (i := (i : Int)) (off := 0) (n := 32) (RdK.ofRest hk hm38) sL rfl (by decide) Xo Yq rfl) <| Zo rfl (Xt (f := u8) (Hs := Ho) (H := [(b1, .cells (Qr [ra.map u8, wa.map u8, oa.map u8, [(bl sb)], [(bl tb)], sa.map u8, ta.map u8, [(i64 n1)], [(i64 n2)], [(i64 n3)], [vk]]) 26 (0, 0))]) hm38 go rfl rfl (Rd.elslO (i := (i : Int)) (n := 32) Yl (RdK.ofRest hk hm38) sL (kp_c (ks.getD i Yl)) sL (by decide)) Z4 Z4 Yq rfl Q8 sL sL) ?_
         rintro sv40 w40 ⟨Hs40, hm40, g40⟩
         replace g40 : Xx u8 5 sv40 ((Ef (Ss.mk ra wa oa sb tb sa ta n1 n2 n3 ks) ++ G7 ks i) ++ ((ks.getD i Yl).c)) Hs40 := g40
         refine rA rfl (v := sv40) rfl ?_
         refine rN (sR ?_)
         refine rM rfl (v := sv40) rfl <| Qb rfl (Zr (r := 165) Xv rfl (by first | rfl | omega) U6 rfl s1) <| Qb (v := vk) rfl (Zd (v := vk) [ra.map u8, wa.map u8, oa.map u8, [(bl sb)], [(bl tb)], sa.map u8, ta.map u8, [(i64 n1)], [(i64 n2)], [(i64 n3)]] [] We rfl rfl ((Mem.pick Hs40 [_] _ hm40)).h0 (Qa (n := 32) (m := 133) (k := 165) (by first | rfl | (rw [List.length_map]; first | omega | (simp; done) | (simp; omega))) (Qa (n := 32) (m := 101) (k := 133) (by first | rfl | (rw [List.length_map]; first | omega | (simp; done) | (simp; omega))) (Qa (n := 32) (m := 69) (k := 101) (by first | rfl | (rw [List.length_map]; first | omega | (simp; done) | (simp; omega))) (Qa (n := 1) (m := 68) (k := 69) rfl (Qa (n := 1) (m := 67) (k := 68) rfl (Qa (n := 32) (m := 35) (k := 67) (by first | rfl | (rw [List.length_map]; first | omega | (simp; done) | (simp; omega))) (Qa (n := 32) (m := 3) (k := 35) (by first | rfl | (rw [List.length_map]; first | omega | (simp; done) | (simp; omega))) (Qa (n := 1) (m := 2) (k := 3) rfl (Qa (n := 1) (m := 1) (k := 2) rfl (Qa (n := 1) (m := 0) (k := 1) rfl Qj rfl) rfl) rfl) rfl) rfl) rfl) rfl) rfl) rfl) rfl)) <| rM rfl s5 <| Qb rfl (Yy (i := (i : Int)) (RdK.ofRest hk hm40) We F6 rfl rfl oM sL) <| Qb rfl (Ez (i := (i : Int)) (RdK.ofRest hk hm40) sL Cc rfl (by first | rfl | omega) Uz rfl rfl) <| Qb (v := (i64 ((ks.getD i Yl).n))) rfl (Cj (i := (i : Int)) (dflt := Yl) (u := (i64 ((ks.getD i Yl).n))) (RdK.ofRest hk hm40) sL Gj rfl rfl (by decide) (kp_n (ks.getD i Yl))) ?_
         have hF42 : Mem w40 (Qo w0) ((Hs40 ++ ([])) ++ ([(b1, .cells (Qr [ra.map u8, wa.map u8, oa.map u8, [(bl sb)], [(bl tb)], sa.map u8, ta.map u8, [(i64 n1)], [(i64 n2)], [(i64 n3)], [vk]]) 26 (0, 0))])) := by
           have hT := hm40
           try simp only [List.append_assoc, List.cons_append, List.nil_append, List.append_nil] at hT ⊢
           exact hT
         refine Zo rfl (Qx Tryd.func45 bd45 nm45 (Yk rfl rfl) (Qc5 sv40 ((Ef (Ss.mk ra wa oa sb tb sa ta n1 n2 n3 ks) ++ G7 ks i) ++ ((ks.getD i Yl).c)) Hs40 ((ks.getD i Yl).n) _ _ (Mem.give hF42) g40 sL sL)) ?_
         rintro rq43 w41 ⟨Hsq43, grq43, k_w41⟩
         have hm41 : Mem w41 (Qo w0) (Hsq43 ++ ([(b1, .cells (Qr [ra.map u8, wa.map u8, oa.map u8, [(bl sb)], [(bl tb)], sa.map u8, ta.map u8, [(i64 n1)], [(i64 n2)], [(i64 n3)], [vk]]) 26 (0, 0))])) := (by
           have hT := Mem.back hF42 k_w41
           try simp only [List.append_assoc, List.cons_append, List.nil_append, List.append_nil] at hT ⊢
           exact hT)
         refine rA rfl (v := rq43) rfl <| rN ?_
         refine CW.abs (fun g => g 0 = (Value.agg (Qr [ra.map u8, wa.map u8, oa.map u8, [(bl sb)], [(bl tb)], sa.map u8, ta.map u8, [(i64 n1)], [(i64 n2)], [(i64 n3)], [vk]])) ∧ g 1 = (ptr b1 0) ∧ g 2 = (Value.slice none 0 0) ∧ g 3 = (i64 ((Jn sb tb).toNat : Int)) ∧ g 4 = rq43 ∧ g 5 = (i64 (i : Int)) ∧ g 7 = (bl sb) ∧ g 11 = (bl tb) ∧ g 55 = (bl (decide ((i : Int) < (ks.length : Int)))) ∧ True) ⟨s0, s1, s2, s3, rfl, s5, s7, s11, rfl, trivial⟩ ?_
         rintro fr44 ⟨s0, s1, s2, s3, s4, s5, s7, s11, s55, _⟩
         refine Qg <| rM rfl s4 <| Qb rfl (Zr (r := 165) Xv rfl (by first | rfl | omega) U6 rfl s1) <| Qb (v := vk) rfl (Zd (v := vk) [ra.map u8, wa.map u8, oa.map u8, [(bl sb)], [(bl tb)], sa.map u8, ta.map u8, [(i64 n1)], [(i64 n2)], [(i64 n3)]] [] We rfl rfl ((Mem.pick Hsq43 [_] _ hm41)).h0 (Qa (n := 32) (m := 133) (k := 165) (by first | rfl | (rw [List.length_map]; first | omega | (simp; done) | (simp; omega))) (Qa (n := 32) (m := 101) (k := 133) (by first | rfl | (rw [List.length_map]; first | omega | (simp; done) | (simp; omega))) (Qa (n := 32) (m := 69) (k := 101) (by first | rfl | (rw [List.length_map]; first | omega | (simp; done) | (simp; omega))) (Qa (n := 1) (m := 68) (k := 69) rfl (Qa (n := 1) (m := 67) (k := 68) rfl (Qa (n := 32) (m := 35) (k := 67) (by first | rfl | (rw [List.length_map]; first | omega | (simp; done) | (simp; omega))) (Qa (n := 32) (m := 3) (k := 35) (by first | rfl | (rw [List.length_map]; first | omega | (simp; done) | (simp; omega))) (Qa (n := 1) (m := 2) (k := 3) rfl (Qa (n := 1) (m := 1) (k := 2) rfl (Qa (n := 1) (m := 0) (k := 1) rfl Qj rfl) rfl) rfl) rfl) rfl) rfl) rfl) rfl) rfl) rfl)) <| rM rfl s5 <| Qb rfl (Yy (i := (i : Int)) (RdK.ofRest hk hm41) We F6 rfl rfl oM sL) <| Qb rfl (Ez (i := (i : Int)) (RdK.ofRest hk hm41) sL Cc rfl (by first | rfl | omega) Z5 rfl rfl) <| Qb rfl (Pz (i := (i : Int)) (off := 33) (n := 32) (RdK.ofRest hk hm41) sL rfl (by decide) Xo Yq rfl) <| Zo rfl (Xt (f := u8) (Hs := Hsq43) (H := [(b1, .cells (Qr [ra.map u8, wa.map u8, oa.map u8, [(bl sb)], [(bl tb)], sa.map u8, ta.map u8, [(i64 n1)], [(i64 n2)], [(i64 n3)], [vk]]) 26 (0, 0))]) hm41 grq43 rfl rfl (Rd.elslO (i := (i : Int)) (n := 32) Yl (RdK.ofRest hk hm41) sL (kp_k (ks.getD i Yl)) sL (by decide)) Z4 Z4 Yq rfl Q8 sL sL) ?_
         rintro sv45 w45 ⟨Hs45, hm45, g45⟩
         replace g45 : Xx u8 5 sv45 ((((Ef (Ss.mk ra wa oa sb tb sa ta n1 n2 n3 ks) ++ G7 ks i) ++ ((ks.getD i Yl).c)) ++ Ui ((ks.getD i Yl).n)) ++ ((ks.getD i Yl).k)) Hs45 := g45
         refine rA rfl (v := sv45) rfl ?_
         refine Zz (Qn (Qg ?_))
         refine rM rfl s5 <| Qb rfl (Qk (b := 1) rfl rfl oM oM) <| Qb rfl (Qd (v := (i64 ((i : Int) + 1))) rfl) <| rN ?_
         exact ⟨⟨(i + 1), sv45, Hs45, oM, (Xx.cast g45 (by rw [G7]; simp only [recK, List.append_assoc])), s0, s1, s2, s3, rfl, rfl, s7, s11, hm45⟩, Fj rfl z5 oM oM⟩
       ·
         have hc39p := of_decide_eq_false hc39
         refine Yb ?_
         refine Zb (Zb (Xw ?_))
         refine sR <| rM rfl s4 <| rA rfl (v := sv) rfl ?_
         refine rN (Xn ?_)
         refine Zj [sv] ⟨rfl, trivial⟩ ?_
         have hm46 := Mem.drop ([(b1, .cells (Qr [ra.map u8, wa.map u8, oa.map u8, [(bl sb)], [(bl tb)], sa.map u8, ta.map u8, [(i64 n1)], [(i64 n2)], [(i64 n3)], [vk]]) 26 (0, 0))]) _ (Mem.pick Ho [_] _ hm38)
         exact ⟨Ho, Xx.cast go (by unfold La; rw [show i = ks.length by omega]), (by
           have hT := hm46
           try simp only [List.append_assoc, List.cons_append, List.nil_append, List.append_nil] at hT ⊢
           exact hT)⟩
set_option maxHeartbeats 2000000 in
theorem c_encode (ra wa oa : List (BitVec 8)) (sb tb : Bool) (sa ta : List (BitVec 8)) (n1 n2 n3 : Int) (vk : Value) (ks : List Kp) (w0 : World)  (hl : ra.length = 32 ∧ wa.length = 32 ∧ oa.length = 32 ∧ sa.length = 32 ∧ ta.length = 32) (hk : RdK (Y3 w0) Jf 65 vk ks) (hn : ks.length ≤ 1048576) : X8 Tryd.prog 19 #[(Value.agg (Qr [ra.map u8, wa.map u8, oa.map u8, [(bl sb)], [(bl tb)], sa.map u8, ta.map u8, [(i64 n1)], [(i64 n2)], [(i64 n3)], [vk]]))] w0 (fun r w1 => ∃ v Hs, r = Value.tuple #[v, i64 (Pj (Ss.mk ra wa oa sb tb sa ta n1 n2 n3 ks))] ∧ Xx u8 5 v (Qai (Ss.mk ra wa oa sb tb sa ta n1 n2 n3 ks)) Hs ∧ Mem w1 (Qo w0) Hs) := by
 refine Zp (args := [(Value.agg (Qr [ra.map u8, wa.map u8, oa.map u8, [(bl sb)], [(bl tb)], sa.map u8, ta.map u8, [(i64 n1)], [(i64 n2)], [(i64 n3)], [vk]]))]) Tryd.func19 rfl Tryd.ntmps19 Tryd.results19 rfl ?_
 have hm0 : Mem w0 (Qo w0) [] := Mem.of_world w0
 obtain ⟨hl1, hl2, hl3, hl4, hl5⟩ := hl
 have hflen : (Ef (Ss.mk ra wa oa sb tb sa ta n1 n2 n3 ks)).length = 177 := by simp [Ef, Dx, hl1, hl2, hl3, hl4, hl5]
 refine sR <| Zo rfl (V6 (cs := (Qr [ra.map u8, wa.map u8, oa.map u8, [(bl sb)], [(bl tb)], sa.map u8, ta.map u8, [(i64 n1)], [(i64 n2)], [(i64 n3)], [vk]])) hm0 rfl) ?_
 rintro _ w1 ⟨b1, rfl, _ew1, hm1⟩
 refine Qb rfl (Qd (v := (Value.slice none 0 0)) rfl) <| Qb rfl (Qd (v := (i64 0)) rfl) ?_
 refine rN (Qh (sR ?_))
 refine Qb (v := (Value.agg (Qr [ra.map u8, wa.map u8, oa.map u8, [(bl sb)], [(bl tb)], sa.map u8, ta.map u8, [(i64 n1)], [(i64 n2)], [(i64 n3)], [vk]]))) rfl (Xz [] [ra.map u8, wa.map u8, oa.map u8, [(bl sb)], [(bl tb)], sa.map u8, ta.map u8, [(i64 n1)], [(i64 n2)], [(i64 n3)], [vk]] [] Xv rfl J6 rfl hm1.h0 Qj (Qa (n := 32) (m := 134) (k := 166) (by first | rfl | (rw [List.length_map]; first | omega | (simp; done) | (simp; omega))) (Qa (n := 32) (m := 102) (k := 134) (by first | rfl | (rw [List.length_map]; first | omega | (simp; done) | (simp; omega))) (Qa (n := 32) (m := 70) (k := 102) (by first | rfl | (rw [List.length_map]; first | omega | (simp; done) | (simp; omega))) (Qa (n := 1) (m := 69) (k := 70) rfl (Qa (n := 1) (m := 68) (k := 69) rfl (Qa (n := 32) (m := 36) (k := 68) (by first | rfl | (rw [List.length_map]; first | omega | (simp; done) | (simp; omega))) (Qa (n := 32) (m := 4) (k := 36) (by first | rfl | (rw [List.length_map]; first | omega | (simp; done) | (simp; omega))) (Qa (n := 1) (m := 3) (k := 4) rfl (Qa (n := 1) (m := 2) (k := 3) rfl (Qa (n := 1) (m := 1) (k := 2) rfl (Qa (n := 1) (m := 0) (k := 1) rfl Qj rfl) rfl) rfl) rfl) rfl) rfl) rfl) rfl) rfl) rfl) rfl)) <| Zo rfl (Qx Tryd.func43 bd43 nm43 (Ye rfl) (Qg5 ra wa oa sb tb sa ta n1 n2 n3 vk ks _ sL (RdK.ofRest hk hm1) sL)) ?_
 rintro _ w2 ⟨rfl, _ew2⟩
 have hm2 := hm1.ext _ew2
 refine Qb rfl (Vx rfl) <| rN ?_
 refine Xy rfl (fun hc4 => ?_) (fun hc4 => ?_)
 ·
   have hc4n : (Je (Ss.mk ra wa oa sb tb sa ta n1 n2 n3 ks)) = false := by simpa using hc4
   refine sR <| Qb rfl (Qd (v := (Value.slice none 0 0)) rfl) <| Qb rfl (Qd (v := (i64 1)) rfl) ?_
   refine rN (Xn (Jv ?_))
   refine Zj [(Value.slice none 0 0), (i64 1)] ⟨rfl, rfl, trivial⟩ ?_
   have hm5 := Mem.drop ([(b1, .cells (Qr [ra.map u8, wa.map u8, oa.map u8, [(bl sb)], [(bl tb)], sa.map u8, ta.map u8, [(i64 n1)], [(i64 n2)], [(i64 n3)], [vk]]) 26 (0, 0))]) _ hm2
   have hR : Je (Ss.mk ra wa oa sb tb sa ta n1 n2 n3 ks) = false := by simpa using hc4
   exact ⟨Value.slice none 0 0, [], by rw [errE_f hR]; rfl, Xx.cast (Xx.none u8 5) (encQ_f hR).symm, hm5⟩
 ·
   have hc4n : (Je (Ss.mk ra wa oa sb tb sa ta n1 n2 n3 ks)) = true := by simpa using hc4
   refine Zc (Qi (Qh ?_))
   have hR : Je (Ss.mk ra wa oa sb tb sa ta n1 n2 n3 ks) = true := by simpa using hc4
   have hRn := Qcm hR
   dsimp only at hRn
   obtain ⟨hn1, hn2, hn3, hkl, hok⟩ := hRn
   refine Qg <| Qb rfl (Qd (v := (u8 0#8)) rfl) ?_
   refine rN (Qh (sR ?_))
   refine Qb rfl (Zr (r := 96) Xv rfl (by first | rfl | omega) Lm rfl rfl) <| Qb (v := (bl sb)) rfl (Zd (v := (bl sb)) [ra.map u8, wa.map u8, oa.map u8] [[(bl tb)], sa.map u8, ta.map u8, [(i64 n1)], [(i64 n2)], [(i64 n3)], [vk]] Pn rfl rfl hm2.h0 (Qa (n := 32) (m := 64) (k := 96) (by first | rfl | (rw [List.length_map]; first | omega | (simp; done) | (simp; omega))) (Qa (n := 32) (m := 32) (k := 64) (by first | rfl | (rw [List.length_map]; first | omega | (simp; done) | (simp; omega))) (Qa (n := 32) (m := 0) (k := 32) (by first | rfl | (rw [List.length_map]; first | omega | (simp; done) | (simp; omega))) Qj rfl) rfl) rfl)) <| rN ?_
   refine G8 (J := fun g wv => g 0 = (Value.agg (Qr [ra.map u8, wa.map u8, oa.map u8, [(bl sb)], [(bl tb)], sa.map u8, ta.map u8, [(i64 n1)], [(i64 n2)], [(i64 n3)], [vk]])) ∧ g 1 = (ptr b1 0) ∧ g 2 = (Value.slice none 0 0) ∧ g 3 = (i64 0) ∧ g 4 = (u8 (if sb then 1#8 else 0#8)) ∧ g 14 = (bl (!(Je (Ss.mk ra wa oa sb tb sa ta n1 n2 n3 ks)))) ∧ g 16 = (bl sb) ∧ Mem wv (Qo w0) [(b1, .cells (Qr [ra.map u8, wa.map u8, oa.map u8, [(bl sb)], [(bl tb)], sa.map u8, ta.map u8, [(i64 n1)], [(i64 n2)], [(i64 n3)], [vk]]) 26 (0, 0))]) ?_ ?_
   · skip
     refine Xy rfl (fun hc6 => ?_) (fun hc6 => ?_)
     ·
       refine Qg <| Qb rfl (Qc (v := (u8 0#8)) rfl) <| Qb rfl (Mc (a := 0#8) (b := 1#8) rfl rfl) <| Qb rfl (Qd (v := (u8 (0#8 ||| 1#8))) rfl) <| rN ?_
       exact ⟨rfl, rfl, rfl, rfl, (Eq.trans rfl (congrArg u8 (by rw [hc6]; rfl))), rfl, rfl, hm2⟩
     ·
       refine Zc (Qi ?_)
       exact ⟨rfl, rfl, rfl, rfl, (Eq.trans rfl (congrArg u8 (by rw [hc6]; rfl))), rfl, rfl, hm2⟩
   · rintro fr7 w8 ⟨s0, s1, s2, s3, s4, s14, s16, hm8⟩
     refine Qh (sR ?_)
     refine Qb rfl (Zr (r := 97) Xv rfl (by first | rfl | omega) Lm rfl s1) <| Qb (v := (bl tb)) rfl (Zd (v := (bl tb)) [ra.map u8, wa.map u8, oa.map u8, [(bl sb)]] [sa.map u8, ta.map u8, [(i64 n1)], [(i64 n2)], [(i64 n3)], [vk]] Pn rfl rfl hm8.h0 (Qa (n := 32) (m := 65) (k := 97) (by first | rfl | (rw [List.length_map]; first | omega | (simp; done) | (simp; omega))) (Qa (n := 32) (m := 33) (k := 65) (by first | rfl | (rw [List.length_map]; first | omega | (simp; done) | (simp; omega))) (Qa (n := 32) (m := 1) (k := 33) (by first | rfl | (rw [List.length_map]; first | omega | (simp; done) | (simp; omega))) (Qa (n := 1) (m := 0) (k := 1) rfl Qj rfl) rfl) rfl) rfl)) <| rN ?_
     refine G8 (J := fun g wv => g 0 = (Value.agg (Qr [ra.map u8, wa.map u8, oa.map u8, [(bl sb)], [(bl tb)], sa.map u8, ta.map u8, [(i64 n1)], [(i64 n2)], [(i64 n3)], [vk]])) ∧ g 1 = (ptr b1 0) ∧ g 2 = (Value.slice none 0 0) ∧ g 3 = (i64 0) ∧ g 4 = (u8 (Jn sb tb)) ∧ g 14 = (bl (!(Je (Ss.mk ra wa oa sb tb sa ta n1 n2 n3 ks)))) ∧ g 16 = (bl sb) ∧ g 20 = (bl tb) ∧ Mem wv (Qo w0) [(b1, .cells (Qr [ra.map u8, wa.map u8, oa.map u8, [(bl sb)], [(bl tb)], sa.map u8, ta.map u8, [(i64 n1)], [(i64 n2)], [(i64 n3)], [vk]]) 26 (0, 0))]) ?_ ?_
     · skip
       refine Xy rfl (fun hc9 => ?_) (fun hc9 => ?_)
       ·
         refine Qg <| rM rfl s4 <| Qb rfl (Mc (b := 2#8) rfl rfl) <| Qb rfl (Qd (v := (u8 ((if sb then 1#8 else 0#8) ||| 2#8))) rfl) <| rN ?_
         exact ⟨s0, s1, s2, s3, (Eq.trans rfl (congrArg u8 (by rw [← Qgx, hc9]; cases sb <;> rfl))), s14, s16, rfl, hm8⟩
       ·
         refine Zc (Qi ?_)
         exact ⟨s0, s1, s2, s3, (Eq.trans s4 (congrArg u8 (by rw [← Qgx, hc9]; cases sb <;> rfl))), s14, s16, rfl, hm8⟩
     · rintro fr10 w11 ⟨s0, s1, s2, s3, s4, s14, s16, s20, hm11⟩
       refine sR <| rM rfl s4 <| Zo rfl (Xd u8 [Jn sb tb] Q8 hm11 Z4 Yq rfl rfl rfl) ?_
       rintro _ w12 ⟨b24, rfl, _ew12, hm12⟩
       refine Qb rfl (Qd (v := (Jt b24 0 1 1)) rfl) ?_
       refine rN (Qh (sR ?_))
       refine Qb rfl (Zr (r := 0) Xv rfl (by first | rfl | omega) Z5 rfl s1) <| Qb (v := (agg u8 ra)) rfl (Xc (f := u8) [] [wa.map u8, oa.map u8, [(bl sb)], [(bl tb)], sa.map u8, ta.map u8, [(i64 n1)], [(i64 n2)], [(i64 n3)], [vk]] ra Xo rfl Z5 rfl hm12.h1 Qj (by first | rfl | omega | (simp; done) | (simp; omega))) <| Qb rfl (Zr (r := 32) Xv rfl (by first | rfl | omega) Z5 rfl s1) <| Qb (v := (agg u8 wa)) rfl (Xc (f := u8) [ra.map u8] [oa.map u8, [(bl sb)], [(bl tb)], sa.map u8, ta.map u8, [(i64 n1)], [(i64 n2)], [(i64 n3)], [vk]] wa Xo rfl Z5 rfl hm12.h1 (Qa (n := 32) (m := 0) (k := 32) (by first | rfl | (rw [List.length_map]; first | omega | (simp; done) | (simp; omega))) Qj rfl) (by first | rfl | omega | (simp; done) | (simp; omega))) <| Qb rfl (Zr (r := 64) Xv rfl (by first | rfl | omega) Z5 rfl s1) <| Qb (v := (agg u8 oa)) rfl (Xc (f := u8) [ra.map u8, wa.map u8] [[(bl sb)], [(bl tb)], sa.map u8, ta.map u8, [(i64 n1)], [(i64 n2)], [(i64 n3)], [vk]] oa Xo rfl Z5 rfl hm12.h1 (Qa (n := 32) (m := 32) (k := 64) (by first | rfl | (rw [List.length_map]; first | omega | (simp; done) | (simp; omega))) (Qa (n := 32) (m := 0) (k := 32) (by first | rfl | (rw [List.length_map]; first | omega | (simp; done) | (simp; omega))) Qj rfl) rfl) (by first | rfl | omega | (simp; done) | (simp; omega))) <| Qb rfl (Zr (r := 98) Xv rfl (by first | rfl | omega) Z5 rfl s1) <| Qb (v := (agg u8 sa)) rfl (Xc (f := u8) [ra.map u8, wa.map u8, oa.map u8, [(bl sb)], [(bl tb)]] [ta.map u8, [(i64 n1)], [(i64 n2)], [(i64 n3)], [vk]] sa Xo rfl Z5 rfl hm12.h1 (Qa (n := 32) (m := 66) (k := 98) (by first | rfl | (rw [List.length_map]; first | omega | (simp; done) | (simp; omega))) (Qa (n := 32) (m := 34) (k := 66) (by first | rfl | (rw [List.length_map]; first | omega | (simp; done) | (simp; omega))) (Qa (n := 32) (m := 2) (k := 34) (by first | rfl | (rw [List.length_map]; first | omega | (simp; done) | (simp; omega))) (Qa (n := 1) (m := 1) (k := 2) rfl (Qa (n := 1) (m := 0) (k := 1) rfl Qj rfl) rfl) rfl) rfl) rfl) (by first | rfl | omega | (simp; done) | (simp; omega))) <| Qb rfl (Zr (r := 130) Xv rfl (by first | rfl | omega) Z5 rfl s1) <| Qb (v := (agg u8 ta)) rfl (Xc (f := u8) [ra.map u8, wa.map u8, oa.map u8, [(bl sb)], [(bl tb)], sa.map u8] [[(i64 n1)], [(i64 n2)], [(i64 n3)], [vk]] ta Xo rfl Z5 rfl hm12.h1 (Qa (n := 32) (m := 98) (k := 130) (by first | rfl | (rw [List.length_map]; first | omega | (simp; done) | (simp; omega))) (Qa (n := 32) (m := 66) (k := 98) (by first | rfl | (rw [List.length_map]; first | omega | (simp; done) | (simp; omega))) (Qa (n := 32) (m := 34) (k := 66) (by first | rfl | (rw [List.length_map]; first | omega | (simp; done) | (simp; omega))) (Qa (n := 1) (m := 33) (k := 34) rfl (Qa (n := 1) (m := 32) (k := 33) rfl (Qa (n := 32) (m := 0) (k := 32) (by first | rfl | (rw [List.length_map]; first | omega | (simp; done) | (simp; omega))) Qj rfl) rfl) rfl) rfl) rfl) rfl) (by first | rfl | omega | (simp; done) | (simp; omega))) <| Zo rfl (Qhe (f := u8) (A1 := (List.replicate 32 (u8 0))) (A2 := (List.replicate 32 (u8 0))) (A3 := (List.replicate 32 (u8 0))) (A4 := (List.replicate 32 (u8 0))) (A5 := (List.replicate 32 (u8 0))) hm12 Sm Z5 rfl (by kernel_rfl) (by simp) (by simp) (by simp) (by simp) (by simp) rfl rfl rfl rfl rfl (by first | rfl | first | omega | (simp only [List.length_set, List.length_append, List.length_replicate, List.length_map, List.length_cons, List.length_nil]; omega) | (simp; done) | (simp; omega) | decide) (by first | rfl | first | omega | (simp only [List.length_set, List.length_append, List.length_replicate, List.length_map, List.length_cons, List.length_nil]; omega) | (simp; done) | (simp; omega) | decide) (by first | rfl | first | omega | (simp only [List.length_set, List.length_append, List.length_replicate, List.length_map, List.length_cons, List.length_nil]; omega) | (simp; done) | (simp; omega) | decide) (by first | rfl | first | omega | (simp only [List.length_set, List.length_append, List.length_replicate, List.length_map, List.length_cons, List.length_nil]; omega) | (simp; done) | (simp; omega) | decide) (by first | rfl | first | omega | (simp only [List.length_set, List.length_append, List.length_replicate, List.length_map, List.length_cons, List.length_nil]; omega) | (simp; done) | (simp; omega) | decide)) ?_
       rintro _ w13 ⟨b35, rfl, _ew13, hm13⟩
       have hm13 : Mem w13 (Qo w0) [(b35, .cells (Qr [ra.map u8, wa.map u8, oa.map u8, sa.map u8, ta.map u8]) 23 (0, 0)), (b24, .cells (cl u8 ([Jn sb tb])) 5 (0, 0)), (b1, .cells (Qr [ra.map u8, wa.map u8, oa.map u8, [(bl sb)], [(bl tb)], sa.map u8, ta.map u8, [(i64 n1)], [(i64 n2)], [(i64 n3)], [vk]]) 26 (0, 0))] := hm13
       refine Qb (v := (i64 5)) rfl (Un Sm rfl) <| Qb rfl (Qc (v := (i64 0)) rfl) ?_
       refine rN (Qv ?_)
       refine Jw 6 ?_
       refine Zu (sR ?_)
       refine Qb rfl (Qs (a := 0) (b := 5) rfl rfl) <| rN ?_
       refine CW.abs (fun g => g 0 = (Value.agg (Qr [ra.map u8, wa.map u8, oa.map u8, [(bl sb)], [(bl tb)], sa.map u8, ta.map u8, [(i64 n1)], [(i64 n2)], [(i64 n3)], [vk]])) ∧ g 1 = (ptr b1 0) ∧ g 2 = (Value.slice none 0 0) ∧ g 3 = (i64 0) ∧ g 4 = (u8 (Jn sb tb)) ∧ g 5 = (Jt b24 0 1 1) ∧ g 14 = (bl (!(Je (Ss.mk ra wa oa sb tb sa ta n1 n2 n3 ks)))) ∧ g 16 = (bl sb) ∧ g 20 = (bl tb) ∧ g 35 = (Jt b35 0 5 5) ∧ g 36 = (i64 5) ∧ g 37 = (i64 0) ∧ g 38 = (bl true) ∧ True) ⟨s0, s1, s2, s3, s4, rfl, s14, s16, s20, rfl, rfl, rfl, rfl, trivial⟩ ?_
       rintro fr14 ⟨s0, s1, s2, s3, s4, s5, s14, s16, s20, s35, s36, s37, s38, _⟩
       refine Qh <| Zf s38 (by decide) ?_
       refine Zc (Qi (Qh (Qv (sR ?_))))
       refine Qb rfl (Ji (r := 0) (i := 0) oM Sm Z5 s35 s37 oM oM) <| Qb (v := (agg u8 ra)) rfl (Xc (f := u8) [] [wa.map u8, oa.map u8, sa.map u8, ta.map u8] ra Xo rfl Z5 rfl hm13.h0 Qj (by first | rfl | omega | (simp; done) | (simp; omega))) <| Zo rfl (Zy hm13 Z5) ?_
       rintro _ w15 ⟨b7, rfl, _ew15, hm15⟩
       refine Xf (Zl (f := u8) (l := ra) Q8 Z5 rfl rfl sL hm15.h0 (by rw [Ko]; first | omega | (simp only [List.length_set, List.length_append, List.length_replicate, List.length_map, List.length_cons, List.length_nil]; omega) | (simp; done) | (simp; omega) | decide) rfl) ?_
       rintro _ w16 uq16
       have hm16 := hm15.upd0 uq16
       refine rN (Qg ?_)
       refine rM rfl s5 <| Qb rfl (Xg (i := 0) (j := 32) Xo Yq rfl (Zn _ _) (Zn _ _) oM sL sL) <| Zo rfl (Xt (f := u8) (Hs := [(b24, .cells (cl u8 ([Jn sb tb])) 5 (0, 0))]) (H := [(b7, .cells (cl u8 ra) 23 (0, 0)), (b35, .cells (Qr [ra.map u8, wa.map u8, oa.map u8, sa.map u8, ta.map u8]) 23 (0, 0)), (b1, .cells (Qr [ra.map u8, wa.map u8, oa.map u8, [(bl sb)], [(bl tb)], sa.map u8, ta.map u8, [(i64 n1)], [(i64 n2)], [(i64 n3)], [vk]]) 26 (0, 0))]) (Mem.pick [_, _] [_] _ hm16) (Xx.of u8 5 b24 ([Jn sb tb])) rfl rfl (Rd.slaAll hm16.h0 sL) Z4 Z4 Yq rfl Q8 sL sL) ?_
       rintro sv17 w17 ⟨Hs17, hm17, g17⟩
       replace g17 : Xx u8 5 sv17 (([Jn sb tb]) ++ ra) Hs17 := g17
       refine rA rfl (v := sv17) rfl ?_
       refine Zz (Qn (Qg ?_))
       refine Qb (v := (i64 1)) rfl (Qk (a := 0) (b := 1) s37 rfl oM oM) <| Qb rfl (Qc (v := (i64 1)) rfl) ?_
       refine rN (Zu (sR ?_))
       refine Qb rfl (Qs (a := 1) (b := 5) rfl s36) ?_
       refine rN (Qh ?_)
       refine Zf rfl (by decide) ?_
       refine Zc (Qi (Qh (Qv (sR ?_))))
       refine Qb rfl (Ji (r := 32) (i := 1) oM Sm Z5 s35 rfl oM oM) <| Qb (v := (agg u8 wa)) rfl (Xc (f := u8) [ra.map u8] [oa.map u8, sa.map u8, ta.map u8] wa Xo rfl Z5 rfl ((Mem.pick2 Hs17 [_] [_] _ hm17)).h0 (Qa (n := 32) (m := 0) (k := 32) (by first | rfl | (rw [List.length_map]; first | omega | (simp; done) | (simp; omega))) Qj rfl) (by first | rfl | omega | (simp; done) | (simp; omega))) <| Zo rfl (Zy hm17 Z5) ?_
       rintro _ w18 ⟨b7_1, rfl, _ew18, hm18⟩
       refine Xf (Zl (f := u8) (l := wa) Q8 Z5 rfl rfl sL hm18.h0 (by rw [Ko]; first | omega | (simp only [List.length_set, List.length_append, List.length_replicate, List.length_map, List.length_cons, List.length_nil]; omega) | (simp; done) | (simp; omega) | decide) rfl) ?_
       rintro _ w19 uq19
       have hm19 := hm18.upd0 uq19
       refine rN (Qg ?_)
       refine rM rfl (v := sv17) rfl <| Qb rfl (Xg (i := 0) (j := 32) Xo Yq rfl (Zn _ _) (Zn _ _) oM sL sL) <| Zo rfl (Xt (f := u8) (Hs := Hs17) (H := [(b7_1, .cells (cl u8 wa) 23 (0, 0)), (b7, .cells (cl u8 ra) 23 (0, 0)), (b35, .cells (Qr [ra.map u8, wa.map u8, oa.map u8, sa.map u8, ta.map u8]) 23 (0, 0)), (b1, .cells (Qr [ra.map u8, wa.map u8, oa.map u8, [(bl sb)], [(bl tb)], sa.map u8, ta.map u8, [(i64 n1)], [(i64 n2)], [(i64 n3)], [vk]]) 26 (0, 0))]) (Mem.pick [_] Hs17 _ hm19) g17 rfl rfl (Rd.slaAll hm19.h0 sL) Z4 Z4 Yq rfl Q8 sL sL) ?_
       rintro sv20 w20 ⟨Hs20, hm20, g20⟩
       replace g20 : Xx u8 5 sv20 ((([Jn sb tb]) ++ ra) ++ wa) Hs20 := g20
       refine rA rfl (v := sv20) rfl ?_
       refine Zz (Qn ?_)
       have hm21 := Mem.drop ([(b7, .cells (cl u8 ra) 23 (0, 0))]) _ (Mem.pick2 Hs20 [_] [_] _ hm20)
       refine CW.abs (fun g => g 0 = (Value.agg (Qr [ra.map u8, wa.map u8, oa.map u8, [(bl sb)], [(bl tb)], sa.map u8, ta.map u8, [(i64 n1)], [(i64 n2)], [(i64 n3)], [vk]])) ∧ g 1 = (ptr b1 0) ∧ g 2 = (Value.slice none 0 0) ∧ g 3 = (i64 0) ∧ g 4 = (u8 (Jn sb tb)) ∧ g 5 = sv20 ∧ g 7 = (ptr b7_1 0) ∧ g 14 = (bl (!(Je (Ss.mk ra wa oa sb tb sa ta n1 n2 n3 ks)))) ∧ g 16 = (bl sb) ∧ g 20 = (bl tb) ∧ g 35 = (Jt b35 0 5 5) ∧ g 36 = (i64 5) ∧ g 37 = (i64 1) ∧ g 38 = (bl true) ∧ True) ⟨s0, s1, s2, s3, s4, rfl, rfl, s14, s16, s20, s35, s36, rfl, rfl, trivial⟩ ?_
       rintro fr22 ⟨s0, s1, s2, s3, s4, s5, s7, s14, s16, s20, s35, s36, s37, s38, _⟩
       refine Qg <| Qb (v := (i64 2)) rfl (Qk (a := 1) (b := 1) s37 rfl oM oM) <| Qb rfl (Qc (v := (i64 2)) rfl) ?_
       refine rN (Zu (sR ?_))
       refine Qb rfl (Qs (a := 2) (b := 5) rfl s36) ?_
       refine rN (Qh ?_)
       refine Zf rfl (by decide) ?_
       refine Zc (Qi (Qh (Qv (sR ?_))))
       refine Qb rfl (Ji (r := 64) (i := 2) oM Sm Z5 s35 rfl oM oM) <| Qb (v := (agg u8 oa)) rfl (Xc (f := u8) [ra.map u8, wa.map u8] [sa.map u8, ta.map u8] oa Xo rfl Z5 rfl ((Mem.pick2 Hs20 [_] [_] _ hm21)).h0 (Qa (n := 32) (m := 32) (k := 64) (by first | rfl | (rw [List.length_map]; first | omega | (simp; done) | (simp; omega))) (Qa (n := 32) (m := 0) (k := 32) (by first | rfl | (rw [List.length_map]; first | omega | (simp; done) | (simp; omega))) Qj rfl) rfl) (by first | rfl | omega | (simp; done) | (simp; omega))) <| Zo rfl (Zy hm21 Z5) ?_
       rintro _ w23 ⟨b7_2, rfl, _ew23, hm23⟩
       refine Xf (Zl (f := u8) (l := oa) Q8 Z5 rfl rfl sL hm23.h0 (by rw [Ko]; first | omega | (simp only [List.length_set, List.length_append, List.length_replicate, List.length_map, List.length_cons, List.length_nil]; omega) | (simp; done) | (simp; omega) | decide) rfl) ?_
       rintro _ w24 uq24
       have hm24 := hm23.upd0 uq24
       refine rN (Qg ?_)
       refine rM rfl s5 <| Qb rfl (Xg (i := 0) (j := 32) Xo Yq rfl (Zn _ _) (Zn _ _) oM sL sL) <| Zo rfl (Xt (f := u8) (Hs := Hs20) (H := [(b7_2, .cells (cl u8 oa) 23 (0, 0)), (b7_1, .cells (cl u8 wa) 23 (0, 0)), (b35, .cells (Qr [ra.map u8, wa.map u8, oa.map u8, sa.map u8, ta.map u8]) 23 (0, 0)), (b1, .cells (Qr [ra.map u8, wa.map u8, oa.map u8, [(bl sb)], [(bl tb)], sa.map u8, ta.map u8, [(i64 n1)], [(i64 n2)], [(i64 n3)], [vk]]) 26 (0, 0))]) (Mem.pick [_] Hs20 _ hm24) g20 rfl rfl (Rd.slaAll hm24.h0 sL) Z4 Z4 Yq rfl Q8 sL sL) ?_
       rintro sv25 w25 ⟨Hs25, hm25, g25⟩
       replace g25 : Xx u8 5 sv25 (((([Jn sb tb]) ++ ra) ++ wa) ++ oa) Hs25 := g25
       refine rA rfl (v := sv25) rfl ?_
       refine Zz (Qn (Qg ?_))
       refine Qb (v := (i64 3)) rfl (Qk (a := 2) (b := 1) rfl rfl oM oM) <| Qb rfl (Qc (v := (i64 3)) rfl) <| rN ?_
       refine CR.abs (fun g => g 0 = (Value.agg (Qr [ra.map u8, wa.map u8, oa.map u8, [(bl sb)], [(bl tb)], sa.map u8, ta.map u8, [(i64 n1)], [(i64 n2)], [(i64 n3)], [vk]])) ∧ g 1 = (ptr b1 0) ∧ g 2 = (Value.slice none 0 0) ∧ g 3 = (i64 0) ∧ g 4 = (u8 (Jn sb tb)) ∧ g 5 = sv25 ∧ g 7 = (ptr b7_2 0) ∧ g 14 = (bl (!(Je (Ss.mk ra wa oa sb tb sa ta n1 n2 n3 ks)))) ∧ g 16 = (bl sb) ∧ g 20 = (bl tb) ∧ g 35 = (Jt b35 0 5 5) ∧ g 36 = (i64 5) ∧ g 37 = (i64 3) ∧ g 38 = (bl true) ∧ True) ⟨s0, s1, s2, s3, s4, rfl, rfl, s14, s16, s20, s35, s36, rfl, rfl, trivial⟩ ?_
       rintro fr26 ⟨s0, s1, s2, s3, s4, s5, s7, s14, s16, s20, s35, s36, s37, s38, _⟩
       refine Zu (sR ?_)
       refine Qb rfl (Qs (a := 3) (b := 5) s37 s36) ?_
       refine rN (Qh ?_)
       refine Zf rfl (by decide) ?_
       refine Zc (Qi (Qh (Qv (sR ?_))))
       refine Qb rfl (Ji (r := 96) (i := 3) oM Sm Z5 s35 s37 oM oM) <| Qb (v := (agg u8 sa)) rfl (Xc (f := u8) [ra.map u8, wa.map u8, oa.map u8] [ta.map u8] sa Xo rfl Z5 rfl ((Mem.pick2 Hs25 [_, _] [_] _ hm25)).h0 (Qa (n := 32) (m := 64) (k := 96) (by first | rfl | (rw [List.length_map]; first | omega | (simp; done) | (simp; omega))) (Qa (n := 32) (m := 32) (k := 64) (by first | rfl | (rw [List.length_map]; first | omega | (simp; done) | (simp; omega))) (Qa (n := 32) (m := 0) (k := 32) (by first | rfl | (rw [List.length_map]; first | omega | (simp; done) | (simp; omega))) Qj rfl) rfl) rfl) (by first | rfl | omega | (simp; done) | (simp; omega))) <| Zo rfl (Zy hm25 Z5) ?_
       rintro _ w27 ⟨b7_3, rfl, _ew27, hm27⟩
       refine Xf (Zl (f := u8) (l := sa) Q8 Z5 rfl rfl sL hm27.h0 (by rw [Ko]; first | omega | (simp only [List.length_set, List.length_append, List.length_replicate, List.length_map, List.length_cons, List.length_nil]; omega) | (simp; done) | (simp; omega) | decide) rfl) ?_
       rintro _ w28 uq28
       have hm28 := hm27.upd0 uq28
       refine rN (Qg ?_)
       refine rM rfl s5 <| Qb rfl (Xg (i := 0) (j := 32) Xo Yq rfl (Zn _ _) (Zn _ _) oM sL sL) <| Zo rfl (Xt (f := u8) (Hs := Hs25) (H := [(b7_3, .cells (cl u8 sa) 23 (0, 0)), (b7_2, .cells (cl u8 oa) 23 (0, 0)), (b7_1, .cells (cl u8 wa) 23 (0, 0)), (b35, .cells (Qr [ra.map u8, wa.map u8, oa.map u8, sa.map u8, ta.map u8]) 23 (0, 0)), (b1, .cells (Qr [ra.map u8, wa.map u8, oa.map u8, [(bl sb)], [(bl tb)], sa.map u8, ta.map u8, [(i64 n1)], [(i64 n2)], [(i64 n3)], [vk]]) 26 (0, 0))]) (Mem.pick [_] Hs25 _ hm28) g25 rfl rfl (Rd.slaAll hm28.h0 sL) Z4 Z4 Yq rfl Q8 sL sL) ?_
       rintro sv29 w29 ⟨Hs29, hm29, g29⟩
       replace g29 : Xx u8 5 sv29 ((((([Jn sb tb]) ++ ra) ++ wa) ++ oa) ++ sa) Hs29 := g29
       refine rA rfl (v := sv29) rfl ?_
       refine Zz (Qn (Qg ?_))
       refine Qb (v := (i64 4)) rfl (Qk (a := 3) (b := 1) s37 rfl oM oM) <| Qb rfl (Qc (v := (i64 4)) rfl) ?_
       refine rN (Zu (sR ?_))
       refine Qb rfl (Qs (a := 4) (b := 5) rfl s36) ?_
       refine rN (Qh ?_)
       refine Zf rfl (by decide) ?_
       refine Zc (Qi (Qh (Qv (sR ?_))))
       refine Qb rfl (Ji (r := 128) (i := 4) oM Sm Z5 s35 rfl oM oM) <| Qb (v := (agg u8 ta)) rfl (Xc (f := u8) [ra.map u8, wa.map u8, oa.map u8, sa.map u8] [] ta Xo rfl Z5 rfl ((Mem.pick2 Hs29 [_, _, _] [_] _ hm29)).h0 (Qa (n := 32) (m := 96) (k := 128) (by first | rfl | (rw [List.length_map]; first | omega | (simp; done) | (simp; omega))) (Qa (n := 32) (m := 64) (k := 96) (by first | rfl | (rw [List.length_map]; first | omega | (simp; done) | (simp; omega))) (Qa (n := 32) (m := 32) (k := 64) (by first | rfl | (rw [List.length_map]; first | omega | (simp; done) | (simp; omega))) (Qa (n := 32) (m := 0) (k := 32) (by first | rfl | (rw [List.length_map]; first | omega | (simp; done) | (simp; omega))) Qj rfl) rfl) rfl) rfl) (by first | rfl | omega | (simp; done) | (simp; omega))) <| Zo rfl (Zy hm29 Z5) ?_
       rintro _ w30 ⟨b7_4, rfl, _ew30, hm30⟩
       refine Xf (Zl (f := u8) (l := ta) Q8 Z5 rfl rfl sL hm30.h0 (by rw [Ko]; first | omega | (simp only [List.length_set, List.length_append, List.length_replicate, List.length_map, List.length_cons, List.length_nil]; omega) | (simp; done) | (simp; omega) | decide) rfl) ?_
       rintro _ w31 uq31
       have hm31 := hm30.upd0 uq31
       refine rN (Qg ?_)
       refine rM rfl (v := sv29) rfl <| Qb rfl (Xg (i := 0) (j := 32) Xo Yq rfl (Zn _ _) (Zn _ _) oM sL sL) <| Zo rfl (Xt (f := u8) (Hs := Hs29) (H := [(b7_4, .cells (cl u8 ta) 23 (0, 0)), (b7_3, .cells (cl u8 sa) 23 (0, 0)), (b7_2, .cells (cl u8 oa) 23 (0, 0)), (b7_1, .cells (cl u8 wa) 23 (0, 0)), (b35, .cells (Qr [ra.map u8, wa.map u8, oa.map u8, sa.map u8, ta.map u8]) 23 (0, 0)), (b1, .cells (Qr [ra.map u8, wa.map u8, oa.map u8, [(bl sb)], [(bl tb)], sa.map u8, ta.map u8, [(i64 n1)], [(i64 n2)], [(i64 n3)], [vk]]) 26 (0, 0))]) (Mem.pick [_] Hs29 _ hm31) g29 rfl rfl (Rd.slaAll hm31.h0 sL) Z4 Z4 Yq rfl Q8 sL sL) ?_
       rintro sv32 w32 ⟨Hs32, hm32, g32⟩
       replace g32 : Xx u8 5 sv32 (((((([Jn sb tb]) ++ ra) ++ wa) ++ oa) ++ sa) ++ ta) Hs32 := g32
       refine rA rfl (v := sv32) rfl ?_
       refine Zz (Qn ?_)
       have hm33 := Mem.drop ([(b7_3, .cells (cl u8 sa) 23 (0, 0))]) _ (Mem.pick2 Hs32 [_] [_] _ hm32)
       have hm34 := Mem.drop ([(b7_2, .cells (cl u8 oa) 23 (0, 0))]) _ (Mem.pick2 Hs32 [_] [_] _ hm33)
       have hm35 := Mem.drop ([(b7_1, .cells (cl u8 wa) 23 (0, 0))]) _ (Mem.pick2 Hs32 [_] [_] _ hm34)
       refine CW.abs (fun g => g 0 = (Value.agg (Qr [ra.map u8, wa.map u8, oa.map u8, [(bl sb)], [(bl tb)], sa.map u8, ta.map u8, [(i64 n1)], [(i64 n2)], [(i64 n3)], [vk]])) ∧ g 1 = (ptr b1 0) ∧ g 2 = (Value.slice none 0 0) ∧ g 3 = (i64 0) ∧ g 4 = (u8 (Jn sb tb)) ∧ g 5 = sv32 ∧ g 7 = (ptr b7_4 0) ∧ g 14 = (bl (!(Je (Ss.mk ra wa oa sb tb sa ta n1 n2 n3 ks)))) ∧ g 16 = (bl sb) ∧ g 20 = (bl tb) ∧ g 35 = (Jt b35 0 5 5) ∧ g 36 = (i64 5) ∧ g 37 = (i64 4) ∧ g 38 = (bl true) ∧ True) ⟨s0, s1, s2, s3, s4, rfl, rfl, s14, s16, s20, s35, s36, rfl, rfl, trivial⟩ ?_
       rintro fr36 ⟨s0, s1, s2, s3, s4, s5, s7, s14, s16, s20, s35, s36, s37, s38, _⟩
       refine Qg <| Qb (v := (i64 5)) rfl (Qk (a := 4) (b := 1) s37 rfl oM oM) <| Qb rfl (Qc (v := (i64 5)) rfl) ?_
       refine rN (Zu (sR ?_))
       refine Qb rfl (Qs (a := 5) (b := 5) rfl s36) ?_
       refine rN (Qh ?_)
       refine Yt rfl (by decide) <| Yb ?_
       refine Zb (Zb (Xw ?_))
       refine Qh (sR ?_)
       refine Qb rfl (Zr (r := 162) Xv rfl (by first | rfl | omega) Uz rfl s1) <| Qb (v := (i64 n1)) rfl (Zd (v := (i64 n1)) [ra.map u8, wa.map u8, oa.map u8, [(bl sb)], [(bl tb)], sa.map u8, ta.map u8] [[(i64 n2)], [(i64 n3)], [vk]] Gj rfl rfl ((Mem.pick2 Hs32 [_, _] [_] _ hm35)).h0 (Qa (n := 32) (m := 130) (k := 162) (by first | rfl | (rw [List.length_map]; first | omega | (simp; done) | (simp; omega))) (Qa (n := 32) (m := 98) (k := 130) (by first | rfl | (rw [List.length_map]; first | omega | (simp; done) | (simp; omega))) (Qa (n := 32) (m := 66) (k := 98) (by first | rfl | (rw [List.length_map]; first | omega | (simp; done) | (simp; omega))) (Qa (n := 1) (m := 65) (k := 66) rfl (Qa (n := 1) (m := 64) (k := 65) rfl (Qa (n := 32) (m := 32) (k := 64) (by first | rfl | (rw [List.length_map]; first | omega | (simp; done) | (simp; omega))) (Qa (n := 32) (m := 0) (k := 32) (by first | rfl | (rw [List.length_map]; first | omega | (simp; done) | (simp; omega))) Qj rfl) rfl) rfl) rfl) rfl) rfl) rfl)) <| Qb rfl (Zr (r := 163) Xv rfl (by first | rfl | omega) Uz rfl s1) <| Qb (v := (i64 n2)) rfl (Zd (v := (i64 n2)) [ra.map u8, wa.map u8, oa.map u8, [(bl sb)], [(bl tb)], sa.map u8, ta.map u8, [(i64 n1)]] [[(i64 n3)], [vk]] Gj rfl rfl ((Mem.pick2 Hs32 [_, _] [_] _ hm35)).h0 (Qa (n := 32) (m := 131) (k := 163) (by first | rfl | (rw [List.length_map]; first | omega | (simp; done) | (simp; omega))) (Qa (n := 32) (m := 99) (k := 131) (by first | rfl | (rw [List.length_map]; first | omega | (simp; done) | (simp; omega))) (Qa (n := 32) (m := 67) (k := 99) (by first | rfl | (rw [List.length_map]; first | omega | (simp; done) | (simp; omega))) (Qa (n := 1) (m := 66) (k := 67) rfl (Qa (n := 1) (m := 65) (k := 66) rfl (Qa (n := 32) (m := 33) (k := 65) (by first | rfl | (rw [List.length_map]; first | omega | (simp; done) | (simp; omega))) (Qa (n := 32) (m := 1) (k := 33) (by first | rfl | (rw [List.length_map]; first | omega | (simp; done) | (simp; omega))) (Qa (n := 1) (m := 0) (k := 1) rfl Qj rfl) rfl) rfl) rfl) rfl) rfl) rfl) rfl)) <| Qb rfl (Zr (r := 164) Xv rfl (by first | rfl | omega) Uz rfl s1) <| Qb (v := (i64 n3)) rfl (Zd (v := (i64 n3)) [ra.map u8, wa.map u8, oa.map u8, [(bl sb)], [(bl tb)], sa.map u8, ta.map u8, [(i64 n1)], [(i64 n2)]] [[vk]] Gj rfl rfl ((Mem.pick2 Hs32 [_, _] [_] _ hm35)).h0 (Qa (n := 32) (m := 132) (k := 164) (by first | rfl | (rw [List.length_map]; first | omega | (simp; done) | (simp; omega))) (Qa (n := 32) (m := 100) (k := 132) (by first | rfl | (rw [List.length_map]; first | omega | (simp; done) | (simp; omega))) (Qa (n := 32) (m := 68) (k := 100) (by first | rfl | (rw [List.length_map]; first | omega | (simp; done) | (simp; omega))) (Qa (n := 1) (m := 67) (k := 68) rfl (Qa (n := 1) (m := 66) (k := 67) rfl (Qa (n := 32) (m := 34) (k := 66) (by first | rfl | (rw [List.length_map]; first | omega | (simp; done) | (simp; omega))) (Qa (n := 32) (m := 2) (k := 34) (by first | rfl | (rw [List.length_map]; first | omega | (simp; done) | (simp; omega))) (Qa (n := 1) (m := 1) (k := 2) rfl (Qa (n := 1) (m := 0) (k := 1) rfl Qj rfl) rfl) rfl) rfl) rfl) rfl) rfl) rfl) rfl)) <| Qb rfl (Zr (r := 165) Xv rfl (by first | rfl | omega) U6 rfl s1) <| Qb (v := vk) rfl (Zd (v := vk) [ra.map u8, wa.map u8, oa.map u8, [(bl sb)], [(bl tb)], sa.map u8, ta.map u8, [(i64 n1)], [(i64 n2)], [(i64 n3)]] [] We rfl rfl ((Mem.pick2 Hs32 [_, _] [_] _ hm35)).h0 (Qa (n := 32) (m := 133) (k := 165) (by first | rfl | (rw [List.length_map]; first | omega | (simp; done) | (simp; omega))) (Qa (n := 32) (m := 101) (k := 133) (by first | rfl | (rw [List.length_map]; first | omega | (simp; done) | (simp; omega))) (Qa (n := 32) (m := 69) (k := 101) (by first | rfl | (rw [List.length_map]; first | omega | (simp; done) | (simp; omega))) (Qa (n := 1) (m := 68) (k := 69) rfl (Qa (n := 1) (m := 67) (k := 68) rfl (Qa (n := 32) (m := 35) (k := 67) (by first | rfl | (rw [List.length_map]; first | omega | (simp; done) | (simp; omega))) (Qa (n := 32) (m := 3) (k := 35) (by first | rfl | (rw [List.length_map]; first | omega | (simp; done) | (simp; omega))) (Qa (n := 1) (m := 2) (k := 3) rfl (Qa (n := 1) (m := 1) (k := 2) rfl (Qa (n := 1) (m := 0) (k := 1) rfl Qj rfl) rfl) rfl) rfl) rfl) rfl) rfl) rfl) rfl) rfl)) <| Qb (v := (i64 (ks.length : Int))) rfl (Vz (RdK.ofRest hk hm35) We rfl) <| Zo rfl (Xd i64 [n1, n2, n3, (ks.length : Int)] Xl hm35 uT83 Uz rfl rfl rfl) ?_
       rintro _ w37 ⟨b54, rfl, _ew37, hm37⟩
       refine Qb (v := (i64 4)) rfl (Un uT83 rfl) <| Qb rfl (Qc (v := (i64 0)) rfl) ?_
       refine rN (Qv ?_)
       refine Jw 5 ?_
       refine Zu (sR ?_)
       refine Qb rfl (Qs (a := 0) (b := 4) rfl rfl) ?_
       refine rN (Qh ?_)
       refine Zf rfl (by decide) ?_
       refine Zc (Qi (Qh (Qv (sR ?_))))
       refine Qb rfl (Ji (r := 0) (i := 0) oM uT83 Uz rfl rfl oM oM) <| Qb (v := (i64 n1)) rfl (Qy Gj rfl rfl hm37.h0 (Zm _ _ 0 (by simp))) <| Qb rfl (Qd (v := (i64 n1)) rfl) <| rN ?_
       refine CW.abs (fun g => g 0 = (Value.agg (Qr [ra.map u8, wa.map u8, oa.map u8, [(bl sb)], [(bl tb)], sa.map u8, ta.map u8, [(i64 n1)], [(i64 n2)], [(i64 n3)], [vk]])) ∧ g 1 = (ptr b1 0) ∧ g 2 = (Value.slice none 0 0) ∧ g 3 = (i64 0) ∧ g 4 = (u8 (Jn sb tb)) ∧ g 5 = sv32 ∧ g 7 = (ptr b7_4 0) ∧ g 9 = (i64 n1) ∧ g 14 = (bl (!(Je (Ss.mk ra wa oa sb tb sa ta n1 n2 n3 ks)))) ∧ g 16 = (bl sb) ∧ g 20 = (bl tb) ∧ g 35 = (Jt b35 0 5 5) ∧ g 36 = (i64 5) ∧ g 37 = (i64 5) ∧ g 38 = (bl false) ∧ g 54 = (Jt b54 0 4 4) ∧ g 55 = (i64 4) ∧ g 56 = (i64 0) ∧ g 57 = (bl true) ∧ True) ⟨s0, s1, s2, s3, s4, s5, s7, rfl, s14, s16, s20, s35, s36, rfl, rfl, rfl, rfl, rfl, rfl, trivial⟩ ?_
       rintro fr38 ⟨s0, s1, s2, s3, s4, s5, s7, s9, s14, s16, s20, s35, s36, s37, s38, s54, s55, s56, s57, _⟩
       refine Qg <| rM rfl s5 <| rM rfl s9 ?_
       have hF40 : Mem w37 (Qo w0) ((Hs32 ++ ([])) ++ ([(b54, .cells (cl i64 ([n1, n2, n3, (ks.length : Int)])) 3 (0, 0)), (b7_4, .cells (cl u8 ta) 23 (0, 0)), (b35, .cells (Qr [ra.map u8, wa.map u8, oa.map u8, sa.map u8, ta.map u8]) 23 (0, 0)), (b1, .cells (Qr [ra.map u8, wa.map u8, oa.map u8, [(bl sb)], [(bl tb)], sa.map u8, ta.map u8, [(i64 n1)], [(i64 n2)], [(i64 n3)], [vk]]) 26 (0, 0))])) := by
         have hT := (Mem.pick [_] Hs32 _ hm37)
         try simp only [List.append_assoc, List.cons_append, List.nil_append, List.append_nil] at hT ⊢
         exact hT
       refine Zo rfl (Qx Tryd.func44 bd44 nm44 (Yk rfl rfl) (Rw sv32 (((((([Jn sb tb]) ++ ra) ++ wa) ++ oa) ++ sa) ++ ta) Hs32 n1 _ _ (Mem.give hF40) g32 sL sL)) ?_
       rintro rq41 w39 ⟨Hsq41, grq41, k_w39⟩
       have hm39 : Mem w39 (Qo w0) (Hsq41 ++ ([(b54, .cells (cl i64 ([n1, n2, n3, (ks.length : Int)])) 3 (0, 0)), (b7_4, .cells (cl u8 ta) 23 (0, 0)), (b35, .cells (Qr [ra.map u8, wa.map u8, oa.map u8, sa.map u8, ta.map u8]) 23 (0, 0)), (b1, .cells (Qr [ra.map u8, wa.map u8, oa.map u8, [(bl sb)], [(bl tb)], sa.map u8, ta.map u8, [(i64 n1)], [(i64 n2)], [(i64 n3)], [vk]]) 26 (0, 0))])) := (by
         have hT := Mem.back hF40 k_w39
         try simp only [List.append_assoc, List.cons_append, List.nil_append, List.append_nil] at hT ⊢
         exact hT)
       refine rA rfl (v := rq41) rfl ?_
       refine Zz (Qn (Qg ?_))
       refine Qb (v := (i64 1)) rfl (Qk (a := 0) (b := 1) s56 rfl oM oM) <| Qb rfl (Qc (v := (i64 1)) rfl) ?_
       refine rN (Zu (sR ?_))
       refine Qb rfl (Qs (a := 1) (b := 4) rfl s55) ?_
       refine rN (Qh ?_)
       refine Zf rfl (by decide) ?_
       refine Zc (Qi (Qh (Qv (sR ?_))))
       refine Qb rfl (Ji (r := 1) (i := 1) oM uT83 Uz s54 rfl oM oM) <| Qb (v := (i64 n2)) rfl (Qy Gj rfl rfl ((Mem.pick Hsq41 [_] _ hm39)).h0 (Zm _ _ 0 (by simp))) <| Qb rfl (Qd (v := (i64 n2)) rfl) ?_
       refine rN (Qg ?_)
       refine rM rfl (v := rq41) rfl <| Qb rfl (Qc (v := (i64 n2)) rfl) ?_
       have hF43 : Mem w39 (Qo w0) ((Hsq41 ++ ([])) ++ ([(b54, .cells (cl i64 ([n1, n2, n3, (ks.length : Int)])) 3 (0, 0)), (b7_4, .cells (cl u8 ta) 23 (0, 0)), (b35, .cells (Qr [ra.map u8, wa.map u8, oa.map u8, sa.map u8, ta.map u8]) 23 (0, 0)), (b1, .cells (Qr [ra.map u8, wa.map u8, oa.map u8, [(bl sb)], [(bl tb)], sa.map u8, ta.map u8, [(i64 n1)], [(i64 n2)], [(i64 n3)], [vk]]) 26 (0, 0))])) := by
         have hT := hm39
         try simp only [List.append_assoc, List.cons_append, List.nil_append, List.append_nil] at hT ⊢
         exact hT
       refine Zo rfl (Qx Tryd.func44 bd44 nm44 (Yk rfl rfl) (Rw rq41 ((((((([Jn sb tb]) ++ ra) ++ wa) ++ oa) ++ sa) ++ ta) ++ Ui n1) Hsq41 n2 _ _ (Mem.give hF43) grq41 sL sL)) ?_
       rintro rq44 w42 ⟨Hsq44, grq44, k_w42⟩
       have hm42 : Mem w42 (Qo w0) (Hsq44 ++ ([(b54, .cells (cl i64 ([n1, n2, n3, (ks.length : Int)])) 3 (0, 0)), (b7_4, .cells (cl u8 ta) 23 (0, 0)), (b35, .cells (Qr [ra.map u8, wa.map u8, oa.map u8, sa.map u8, ta.map u8]) 23 (0, 0)), (b1, .cells (Qr [ra.map u8, wa.map u8, oa.map u8, [(bl sb)], [(bl tb)], sa.map u8, ta.map u8, [(i64 n1)], [(i64 n2)], [(i64 n3)], [vk]]) 26 (0, 0))])) := (by
         have hT := Mem.back hF43 k_w42
         try simp only [List.append_assoc, List.cons_append, List.nil_append, List.append_nil] at hT ⊢
         exact hT)
       refine rA rfl (v := rq44) rfl ?_
       refine Zz (Qn (Qg ?_))
       refine Qb (v := (i64 2)) rfl (Qk (a := 1) (b := 1) rfl rfl oM oM) <| Qb rfl (Qc (v := (i64 2)) rfl) <| rN ?_
       refine CR.abs (fun g => g 0 = (Value.agg (Qr [ra.map u8, wa.map u8, oa.map u8, [(bl sb)], [(bl tb)], sa.map u8, ta.map u8, [(i64 n1)], [(i64 n2)], [(i64 n3)], [vk]])) ∧ g 1 = (ptr b1 0) ∧ g 2 = (Value.slice none 0 0) ∧ g 3 = (i64 0) ∧ g 4 = (u8 (Jn sb tb)) ∧ g 5 = rq44 ∧ g 7 = (ptr b7_4 0) ∧ g 9 = (i64 n2) ∧ g 14 = (bl (!(Je (Ss.mk ra wa oa sb tb sa ta n1 n2 n3 ks)))) ∧ g 16 = (bl sb) ∧ g 20 = (bl tb) ∧ g 35 = (Jt b35 0 5 5) ∧ g 36 = (i64 5) ∧ g 37 = (i64 5) ∧ g 38 = (bl false) ∧ g 54 = (Jt b54 0 4 4) ∧ g 55 = (i64 4) ∧ g 56 = (i64 2) ∧ g 57 = (bl true) ∧ True) ⟨s0, s1, s2, s3, s4, rfl, s7, rfl, s14, s16, s20, s35, s36, s37, s38, s54, s55, rfl, rfl, trivial⟩ ?_
       rintro fr45 ⟨s0, s1, s2, s3, s4, s5, s7, s9, s14, s16, s20, s35, s36, s37, s38, s54, s55, s56, s57, _⟩
       refine Zu (sR ?_)
       refine Qb rfl (Qs (a := 2) (b := 4) s56 s55) ?_
       refine rN (Qh ?_)
       refine Zf rfl (by decide) ?_
       refine Zc (Qi (Qh (Qv (sR ?_))))
       refine Qb rfl (Ji (r := 2) (i := 2) oM uT83 Uz s54 s56 oM oM) <| Qb (v := (i64 n3)) rfl (Qy Gj rfl rfl ((Mem.pick Hsq44 [_] _ hm42)).h0 (Zm _ _ 0 (by simp))) <| Qb rfl (Qd (v := (i64 n3)) rfl) ?_
       refine rN (Qg ?_)
       refine rM rfl s5 <| Qb rfl (Qc (v := (i64 n3)) rfl) ?_
       have hF47 : Mem w42 (Qo w0) ((Hsq44 ++ ([])) ++ ([(b54, .cells (cl i64 ([n1, n2, n3, (ks.length : Int)])) 3 (0, 0)), (b7_4, .cells (cl u8 ta) 23 (0, 0)), (b35, .cells (Qr [ra.map u8, wa.map u8, oa.map u8, sa.map u8, ta.map u8]) 23 (0, 0)), (b1, .cells (Qr [ra.map u8, wa.map u8, oa.map u8, [(bl sb)], [(bl tb)], sa.map u8, ta.map u8, [(i64 n1)], [(i64 n2)], [(i64 n3)], [vk]]) 26 (0, 0))])) := by
         have hT := hm42
         try simp only [List.append_assoc, List.cons_append, List.nil_append, List.append_nil] at hT ⊢
         exact hT
       refine Zo rfl (Qx Tryd.func44 bd44 nm44 (Yk rfl rfl) (Rw rq44 (((((((([Jn sb tb]) ++ ra) ++ wa) ++ oa) ++ sa) ++ ta) ++ Ui n1) ++ Ui n2) Hsq44 n3 _ _ (Mem.give hF47) grq44 sL sL)) ?_
       rintro rq48 w46 ⟨Hsq48, grq48, k_w46⟩
       have hm46 : Mem w46 (Qo w0) (Hsq48 ++ ([(b54, .cells (cl i64 ([n1, n2, n3, (ks.length : Int)])) 3 (0, 0)), (b7_4, .cells (cl u8 ta) 23 (0, 0)), (b35, .cells (Qr [ra.map u8, wa.map u8, oa.map u8, sa.map u8, ta.map u8]) 23 (0, 0)), (b1, .cells (Qr [ra.map u8, wa.map u8, oa.map u8, [(bl sb)], [(bl tb)], sa.map u8, ta.map u8, [(i64 n1)], [(i64 n2)], [(i64 n3)], [vk]]) 26 (0, 0))])) := (by
         have hT := Mem.back hF47 k_w46
         try simp only [List.append_assoc, List.cons_append, List.nil_append, List.append_nil] at hT ⊢
         exact hT)
       refine rA rfl (v := rq48) rfl ?_
       refine Zz (Qn (Qg ?_))
       refine Qb (v := (i64 3)) rfl (Qk (a := 2) (b := 1) s56 rfl oM oM) <| Qb rfl (Qc (v := (i64 3)) rfl) ?_
       refine rN (Zu (sR ?_))
       refine Qb rfl (Qs (a := 3) (b := 4) rfl s55) ?_
       refine rN (Qh ?_)
       refine Zf rfl (by decide) ?_
       refine Zc (Qi (Qh (Qv (sR ?_))))
       refine Qb rfl (Ji (r := 3) (i := 3) oM uT83 Uz s54 rfl oM oM) <| Qb (v := (i64 (ks.length : Int))) rfl (Qy Gj rfl rfl ((Mem.pick Hsq48 [_] _ hm46)).h0 (Zm _ _ 0 (by simp))) <| Qb rfl (Qd (v := (i64 (ks.length : Int))) rfl) ?_
       refine rN (Qg ?_)
       refine rM rfl (v := rq48) rfl <| Qb rfl (Qc (v := (i64 (ks.length : Int))) rfl) ?_
       have hF50 : Mem w46 (Qo w0) ((Hsq48 ++ ([])) ++ ([(b54, .cells (cl i64 ([n1, n2, n3, (ks.length : Int)])) 3 (0, 0)), (b7_4, .cells (cl u8 ta) 23 (0, 0)), (b35, .cells (Qr [ra.map u8, wa.map u8, oa.map u8, sa.map u8, ta.map u8]) 23 (0, 0)), (b1, .cells (Qr [ra.map u8, wa.map u8, oa.map u8, [(bl sb)], [(bl tb)], sa.map u8, ta.map u8, [(i64 n1)], [(i64 n2)], [(i64 n3)], [vk]]) 26 (0, 0))])) := by
         have hT := hm46
         try simp only [List.append_assoc, List.cons_append, List.nil_append, List.append_nil] at hT ⊢
         exact hT
       refine Zo rfl (Qx Tryd.func44 bd44 nm44 (Yk rfl rfl) (Rw rq48 ((((((((([Jn sb tb]) ++ ra) ++ wa) ++ oa) ++ sa) ++ ta) ++ Ui n1) ++ Ui n2) ++ Ui n3) Hsq48 (ks.length : Int) _ _ (Mem.give hF50) grq48 sL sL)) ?_
       rintro rq51 w49 ⟨Hsq51, grq51, k_w49⟩
       have hm49 : Mem w49 (Qo w0) (Hsq51 ++ ([(b54, .cells (cl i64 ([n1, n2, n3, (ks.length : Int)])) 3 (0, 0)), (b7_4, .cells (cl u8 ta) 23 (0, 0)), (b35, .cells (Qr [ra.map u8, wa.map u8, oa.map u8, sa.map u8, ta.map u8]) 23 (0, 0)), (b1, .cells (Qr [ra.map u8, wa.map u8, oa.map u8, [(bl sb)], [(bl tb)], sa.map u8, ta.map u8, [(i64 n1)], [(i64 n2)], [(i64 n3)], [vk]]) 26 (0, 0))])) := (by
         have hT := Mem.back hF50 k_w49
         try simp only [List.append_assoc, List.cons_append, List.nil_append, List.append_nil] at hT ⊢
         exact hT)
       refine rA rfl (v := rq51) rfl ?_
       refine Zz (Qn ?_)
       refine CW.abs (fun g => g 0 = (Value.agg (Qr [ra.map u8, wa.map u8, oa.map u8, [(bl sb)], [(bl tb)], sa.map u8, ta.map u8, [(i64 n1)], [(i64 n2)], [(i64 n3)], [vk]])) ∧ g 1 = (ptr b1 0) ∧ g 2 = (Value.slice none 0 0) ∧ g 3 = (i64 0) ∧ g 4 = (u8 (Jn sb tb)) ∧ g 5 = rq51 ∧ g 7 = (ptr b7_4 0) ∧ g 9 = (i64 (ks.length : Int)) ∧ g 14 = (bl (!(Je (Ss.mk ra wa oa sb tb sa ta n1 n2 n3 ks)))) ∧ g 16 = (bl sb) ∧ g 20 = (bl tb) ∧ g 35 = (Jt b35 0 5 5) ∧ g 36 = (i64 5) ∧ g 37 = (i64 5) ∧ g 38 = (bl false) ∧ g 54 = (Jt b54 0 4 4) ∧ g 55 = (i64 4) ∧ g 56 = (i64 3) ∧ g 57 = (bl true) ∧ True) ⟨s0, s1, s2, s3, s4, rfl, s7, rfl, s14, s16, s20, s35, s36, s37, s38, s54, s55, rfl, rfl, trivial⟩ ?_
       rintro fr52 ⟨s0, s1, s2, s3, s4, s5, s7, s9, s14, s16, s20, s35, s36, s37, s38, s54, s55, s56, s57, _⟩
       refine Qg <| Qb (v := (i64 4)) rfl (Qk (a := 3) (b := 1) s56 rfl oM oM) <| Qb rfl (Qc (v := (i64 4)) rfl) ?_
       refine rN (Zu (sR ?_))
       refine Qb rfl (Qs (a := 4) (b := 4) rfl s55) ?_
       refine rN (Qh ?_)
       refine Yt rfl (by decide) <| Yb ?_
       refine Zb (Zb (Xw ?_))
       refine Qh (sR ?_)
       refine Qb rfl (Zr (r := 165) Xv rfl (by first | rfl | omega) U6 rfl s1) <| Qb (v := vk) rfl (Zd (v := vk) [ra.map u8, wa.map u8, oa.map u8, [(bl sb)], [(bl tb)], sa.map u8, ta.map u8, [(i64 n1)], [(i64 n2)], [(i64 n3)]] [] We rfl rfl ((Mem.pick2 Hsq51 [_, _, _] [_] _ hm49)).h0 (Qa (n := 32) (m := 133) (k := 165) (by first | rfl | (rw [List.length_map]; first | omega | (simp; done) | (simp; omega))) (Qa (n := 32) (m := 101) (k := 133) (by first | rfl | (rw [List.length_map]; first | omega | (simp; done) | (simp; omega))) (Qa (n := 32) (m := 69) (k := 101) (by first | rfl | (rw [List.length_map]; first | omega | (simp; done) | (simp; omega))) (Qa (n := 1) (m := 68) (k := 69) rfl (Qa (n := 1) (m := 67) (k := 68) rfl (Qa (n := 32) (m := 35) (k := 67) (by first | rfl | (rw [List.length_map]; first | omega | (simp; done) | (simp; omega))) (Qa (n := 32) (m := 3) (k := 35) (by first | rfl | (rw [List.length_map]; first | omega | (simp; done) | (simp; omega))) (Qa (n := 1) (m := 2) (k := 3) rfl (Qa (n := 1) (m := 1) (k := 2) rfl (Qa (n := 1) (m := 0) (k := 1) rfl Qj rfl) rfl) rfl) rfl) rfl) rfl) rfl) rfl) rfl) rfl)) <| Qb (v := (i64 (ks.length : Int))) rfl (Vz (RdK.ofRest hk hm49) We rfl) <| Qb rfl (Qc (v := (i64 0)) rfl) ?_
       refine rN (Qv ?_)
       refine Jg (fun g wv => ∃ (i : Nat) (sv : Value) (Ho : List (Nat × Obj)), (i ≤ ks.length) ∧ (Xx u8 5 sv (Ef (Ss.mk ra wa oa sb tb sa ta n1 n2 n3 ks) ++ G7 ks i) Ho) ∧ g 0 = (Value.agg (Qr [ra.map u8, wa.map u8, oa.map u8, [(bl sb)], [(bl tb)], sa.map u8, ta.map u8, [(i64 n1)], [(i64 n2)], [(i64 n3)], [vk]])) ∧ g 1 = (ptr b1 0) ∧ g 2 = (Value.slice none 0 0) ∧ g 3 = (i64 0) ∧ g 4 = (u8 (Jn sb tb)) ∧ g 5 = sv ∧ g 7 = (ptr b7_4 0) ∧ g 9 = (i64 (ks.length : Int)) ∧ g 14 = (bl (!(Je (Ss.mk ra wa oa sb tb sa ta n1 n2 n3 ks)))) ∧ g 16 = (bl sb) ∧ g 20 = (bl tb) ∧ g 35 = (Jt b35 0 5 5) ∧ g 36 = (i64 5) ∧ g 37 = (i64 5) ∧ g 38 = (bl false) ∧ g 54 = (Jt b54 0 4 4) ∧ g 55 = (i64 4) ∧ g 56 = (i64 4) ∧ g 57 = (bl false) ∧ g 65 = vk ∧ g 66 = (i64 (ks.length : Int)) ∧ g 67 = (i64 (i : Int)) ∧ Mem wv (Qo w0) (Ho ++ ([(b1, .cells (Qr [ra.map u8, wa.map u8, oa.map u8, [(bl sb)], [(bl tb)], sa.map u8, ta.map u8, [(i64 n1)], [(i64 n2)], [(i64 n3)], [vk]]) 26 (0, 0))]))) (fun g wv => ((ks.length : Int) - RowKit.intOf (g 67)).toNat) ?_ ?_
       have hm53 := Mem.drop ([(b54, .cells (cl i64 ([n1, n2, n3, (ks.length : Int)])) 3 (0, 0))]) _ (Mem.pick Hsq51 [_] _ hm49)
       have hm54 := Mem.drop ([(b7_4, .cells (cl u8 ta) 23 (0, 0))]) _ (Mem.pick Hsq51 [_] _ hm53)
       have hm55 := Mem.drop ([(b35, .cells (Qr [ra.map u8, wa.map u8, oa.map u8, sa.map u8, ta.map u8]) 23 (0, 0))]) _ (Mem.pick Hsq51 [_] _ hm54)
       · exact ⟨0, rq51, Hsq51, oM, (Xx.cast grq51 (by rw [G7, List.append_nil]; first | (simp only [Ef, byteI]; done) | simp only [Ef, byteI, List.cons_append, List.nil_append])), s0, s1, s2, s3, s4, s5, s7, s9, s14, s16, s20, s35, s36, s37, s38, s54, s55, rfl, rfl, rfl, rfl, rfl, (by
         have hT := hm55
         try simp only [List.append_assoc, List.cons_append, List.nil_append, List.append_nil] at hT ⊢
         exact hT)⟩
       · rintro fr56 w57 ⟨i, sv, Ho, hi, go, s0, s1, s2, s3, s4, s5, s7, s9, s14, s16, s20, s35, s36, s37, s38, s54, s55, s56, s57, s65, s66, s67, hm57⟩
         have z67 := s67
         have z5 := s5
         have hkc := (ks.getD i Yl).hc; have hkk := (ks.getD i Yl).hk; have hel := N8 ks i
         refine sR <| Qb rfl (Qs s67 s66) ?_
         refine rN (Qh ?_)
         refine Xy rfl (fun hc58 => ?_) (fun hc58 => ?_)
         ·
           have hc58p := of_decide_eq_true hc58
           have hkn := Qgs hok (i := i) oM; have hn4 := Dx (ks.getD i Yl).n
           refine Zc (Qi (Qh (Qv (sR ?_))))
           refine Qb rfl (Yy (i := (i : Int)) (RdK.ofRest hk hm57) We F6 s65 s67 oM sL) <| Qb (v := (Value.agg (Qr [((ks.getD i Yl).c).map u8, [(i64 ((ks.getD i Yl).n))], ((ks.getD i Yl).k).map u8]))) rfl (Ue (i := (i : Int)) (dflt := Yl) (cs := (Qr [((ks.getD i Yl).c).map u8, [(i64 ((ks.getD i Yl).n))], ((ks.getD i Yl).k).map u8])) (RdK.ofRest hk hm57) sL Cc rfl F6 rfl rfl (by decide) (kp_a (ks.getD i Yl))) <| Zo rfl (Jc hm57 F6) ?_
           rintro _ w59 ⟨b11, rfl, _ew59, hm59⟩
           refine Xf (Xh [((ks.getD i Yl).c).map u8, [(i64 ((ks.getD i Yl).n))], ((ks.getD i Yl).k).map u8] F6 rfl rfl (Qa (n := 32) (m := 33) (k := 65) (by first | rfl | (rw [List.length_map]; first | omega | (simp; done) | (simp; omega))) (Qa (n := 1) (m := 32) (k := 33) rfl (Qa (n := 32) (m := 0) (k := 32) (by first | rfl | (rw [List.length_map]; first | omega | (simp; done) | (simp; omega))) Qj rfl) rfl) rfl) (Qp (Zg Q8 _) (Qp (Q9 (Xl _) Zq) (Qp (Zg Q8 _) J7))) hm59.h0 rfl rfl) ?_
           rintro _ w60 uq60
           have hm60 : Mem w60 (Qo w0) ([(b11, .cells (Qr [((ks.getD i Yl).c).map u8, [(i64 ((ks.getD i Yl).n))], ((ks.getD i Yl).k).map u8]) 69 (0, 0))] ++ (Ho ++ ([(b1, .cells (Qr [ra.map u8, wa.map u8, oa.map u8, [(bl sb)], [(bl tb)], sa.map u8, ta.map u8, [(i64 n1)], [(i64 n2)], [(i64 n3)], [vk]]) 26 (0, 0))]))) := hm59.upd0 uq60
           refine rN <| Kz (by kernel_rfl) ?_
           have hm61 := (Mem.pick2 [_] Ho [_] _ hm60)
           have hm62 := (Mem.pick [_] [_] _ hm61)
           have hm63 := (Mem.pick [_, _] Ho _ hm62)
           have hFM64 : Mem w60 (Qo w0) ((Ho ++ ([])) ++ [(b11, .cells (Qr [((ks.getD i Yl).c).map u8, [(i64 ((ks.getD i Yl).n))], ((ks.getD i Yl).k).map u8]) 69 (0, 0)), (b1, .cells (Qr [ra.map u8, wa.map u8, oa.map u8, [(bl sb)], [(bl tb)], sa.map u8, ta.map u8, [(i64 n1)], [(i64 n2)], [(i64 n3)], [vk]]) 26 (0, 0))]) := (by
             have hT := hm63
             try simp only [List.append_assoc, List.cons_append, List.nil_append, List.append_nil] at hT ⊢
             exact hT)
           obtain ⟨RM64, hRM64⟩ : ∃ R2, R2 = Rest.add (Qo w0) [(b11, .cells (Qr [((ks.getD i Yl).c).map u8, [(i64 ((ks.getD i Yl).n))], ((ks.getD i Yl).k).map u8]) 69 (0, 0)), (b1, .cells (Qr [ra.map u8, wa.map u8, oa.map u8, [(bl sb)], [(bl tb)], sa.map u8, ta.map u8, [(i64 n1)], [(i64 n2)], [(i64 n3)], [vk]]) 26 (0, 0))] := ⟨_, rfl⟩
           have M640 : Mem w60 RM64 (Ho ++ ([])) := by rw [hRM64]; exact Mem.give hFM64
           have hr65 : RdK RM64.blk Jf 65 vk ks := by rw [hRM64]; exact RdK.mono hk fun b o e => Mem.addRest hFM64 e
           have ho66 : RM64.blk b11 = some (.cells (Qr [((ks.getD i Yl).c).map u8, [(i64 ((ks.getD i Yl).n))], ((ks.getD i Yl).k).map u8]) 69 (0, 0)) := by rw [hRM64]; exact Mem.addOwn hFM64 (List.Mem.head _)
           have ho67 : RM64.blk b1 = some (.cells (Qr [ra.map u8, wa.map u8, oa.map u8, [(bl sb)], [(bl tb)], sa.map u8, ta.map u8, [(i64 n1)], [(i64 n2)], [(i64 n3)], [vk]]) 26 (0, 0)) := by rw [hRM64]; exact Mem.addOwn hFM64 (List.Mem.tail _ (List.Mem.head _))
           refine Uc M640 [(0, false), (1, false), (2, false), (4, false), (5, false), (7, false), (8, false), (3, true), (6, true)] 9 rfl (by kernel_rfl) <| Jd rfl rfl (fun w _H _hx => Qc s5) <| Jd rfl rfl (fun w _H _hx => Zr (r := 0) Cc rfl (by first | rfl | omega) Z5 rfl rfl) <| Jd rfl rfl (fun w _H _hx => Xg (i := 0) (j := 32) Xo Yq rfl (Zn _ _) (Zn _ _) oM sL sL) <| Jd rfl rfl (fun w _H _hx => Zr (r := 32) Cc rfl (by first | rfl | omega) Uz rfl rfl) <| Jd (v := (i64 ((ks.getD i Yl).n))) rfl rfl (fun w _H _hx => Zd (v := (i64 ((ks.getD i Yl).n))) [((ks.getD i Yl).c).map u8] [((ks.getD i Yl).k).map u8] Gj rfl rfl (_hx.rest _ _ ho66) (Qa (n := 32) (m := 0) (k := 32) (by first | rfl | (rw [List.length_map]; first | omega | (simp; done) | (simp; omega))) Qj rfl)) <| Jd rfl rfl (fun w _H _hx => Zr (r := 33) Cc rfl (by first | rfl | omega) Z5 rfl rfl) <| Jd rfl rfl (fun w _H _hx => Xg (i := 0) (j := 32) Xo Yq rfl (Zn _ _) (Zn _ _) oM sL sL) ?_
           refine Rt rfl rfl (fun w68 _ew68 => ?_)
           have hm68 := M640.ext _ew68
           refine Jr.mono (Xt (f := u8) (Hs := Ho) (H := []) hm68 go rfl rfl (Rd.segA [] [[(i64 ((ks.getD i Yl).n))], ((ks.getD i Yl).k).map u8] (hm68.rest _ _ ho66) Qj sL (by decide) (by decide)) Z4 Z4 Yq rfl Q8 sL sL) ?_
           rintro sv69 w69 ⟨Hs69, hm69, g69⟩
           replace g69 : Xx u8 5 sv69 ((Ef (Ss.mk ra wa oa sb tb sa ta n1 n2 n3 ks) ++ G7 ks i) ++ ((ks.getD i Yl).c)) Hs69 := g69
           refine ⟨⟨_, hm69⟩, ?_⟩
           refine Rt rfl rfl (fun w70 _ew70 => ?_)
           have hm70 := hm69.ext _ew70
           have hF72 : Mem w70 RM64 ((Hs69 ++ ([])) ++ ([])) := by
             have hT := hm70
             try simp only [List.append_assoc, List.cons_append, List.nil_append, List.append_nil] at hT ⊢
             exact hT
           refine Jr.mono (Qx Tryd.func44 bd44 nm44 (Yk rfl rfl) (Rw sv69 ((Ef (Ss.mk ra wa oa sb tb sa ta n1 n2 n3 ks) ++ G7 ks i) ++ ((ks.getD i Yl).c)) Hs69 ((ks.getD i Yl).n) _ _ (Mem.give hF72) g69 sL sL)) ?_
           rintro rq73 w71 ⟨Hsq73, grq73, k_w71⟩
           have hm71 : Mem w71 RM64 (Hsq73 ++ ([])) := (by
             have hT := Mem.back hF72 k_w71
             try simp only [List.append_assoc, List.cons_append, List.nil_append, List.append_nil] at hT ⊢
             exact hT)
           refine ⟨⟨_, hm71⟩, ?_⟩
           refine X3 (fun w74 _ew74 => ?_)
           have hm74 := hm71.ext _ew74
           have hX75 := hm74
           rw [hRM64] at hX75
           have hm76 : Mem w74 (Qo w0) (Hsq73 ++ ([(b11, .cells (Qr [((ks.getD i Yl).c).map u8, [(i64 ((ks.getD i Yl).n))], ((ks.getD i Yl).k).map u8]) 69 (0, 0)), (b1, .cells (Qr [ra.map u8, wa.map u8, oa.map u8, [(bl sb)], [(bl tb)], sa.map u8, ta.map u8, [(i64 n1)], [(i64 n2)], [(i64 n3)], [vk]]) 26 (0, 0))])) := (by
             have hT := Mem.back hFM64 hX75
             try simp only [List.append_assoc, List.cons_append, List.nil_append, List.append_nil] at hT ⊢
             exact hT)
           refine Zo rfl (Xt (f := u8) (Hs := Hsq73) (H := [(b11, .cells (Qr [((ks.getD i Yl).c).map u8, [(i64 ((ks.getD i Yl).n))], ((ks.getD i Yl).k).map u8]) 69 (0, 0)), (b1, .cells (Qr [ra.map u8, wa.map u8, oa.map u8, [(bl sb)], [(bl tb)], sa.map u8, ta.map u8, [(i64 n1)], [(i64 n2)], [(i64 n3)], [vk]]) 26 (0, 0))]) hm76 grq73 rfl rfl (Rd.segA [((ks.getD i Yl).c).map u8, [(i64 ((ks.getD i Yl).n))]] [] ((Mem.pick Hsq73 [_] _ hm76)).h0 (Qa (n := 32) (m := 1) (k := 33) (by first | rfl | (rw [List.length_map]; first | omega | (simp; done) | (simp; omega))) (Qa (n := 1) (m := 0) (k := 1) rfl Qj rfl) rfl) sL (by decide) (by decide)) Z4 Z4 Yq rfl Q8 sL sL) ?_
           rintro sv77 w77 ⟨Hs77, hm77, g77⟩
           replace g77 : Xx u8 5 sv77 ((((Ef (Ss.mk ra wa oa sb tb sa ta n1 n2 n3 ks) ++ G7 ks i) ++ ((ks.getD i Yl).c)) ++ Ui ((ks.getD i Yl).n)) ++ ((ks.getD i Yl).k)) Hs77 := g77
           refine rA rfl (v := sv77) rfl ?_
           refine Zz (Qn (Qg ?_))
           refine Qb rfl (Qk (b := 1) s67 rfl oM oM) <| Qb rfl (Qc (v := (i64 ((i : Int) + 1))) rfl) <| rN ?_
           have hm78 := Mem.drop ([(b11, .cells (Qr [((ks.getD i Yl).c).map u8, [(i64 ((ks.getD i Yl).n))], ((ks.getD i Yl).k).map u8]) 69 (0, 0))]) _ (Mem.pick Hs77 [_] _ hm77)
           exact ⟨⟨(i + 1), sv77, Hs77, oM, (Xx.cast g77 (by rw [G7]; simp only [recK, List.append_assoc])), s0, s1, s2, s3, s4, rfl, s7, s9, s14, s16, s20, s35, s36, s37, s38, s54, s55, s56, s57, s65, s66, rfl, hm78⟩, Fj rfl z67 oM oM⟩
         ·
           have hc58p := of_decide_eq_false hc58
           refine Yb ?_
           refine Zb (Zb (Xw ?_))
           refine sR <| rM rfl s5 <| rA rfl (v := sv) rfl <| Qb rfl (Qd (v := (i64 0)) rfl) ?_
           refine rN (Xn ?_)
           refine Zj [sv, (i64 0)] ⟨rfl, rfl, trivial⟩ ?_
           have hm79 := Mem.drop ([(b1, .cells (Qr [ra.map u8, wa.map u8, oa.map u8, [(bl sb)], [(bl tb)], sa.map u8, ta.map u8, [(i64 n1)], [(i64 n2)], [(i64 n3)], [vk]]) 26 (0, 0))]) _ (Mem.pick Ho [_] _ hm57)
           exact ⟨sv, Ho, by rw [errE_t hR]; rfl, Xx.cast go (by rw [encQ_t hR]; unfold La; rw [show i = ks.length by omega]), (by
             have hT := hm79
             try simp only [List.append_assoc, List.cons_append, List.nil_append, List.append_nil] at hT ⊢
             exact hT)⟩
end Go.Proofs.YtkmiemlpfkfiiaaDoor
