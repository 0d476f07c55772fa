/- The ratchet: searches; keys that are left out. Conditions: none beyond those that each theorem states. -/
import Derived.Test.YtkmiemlpfkfiiaaDoorRb2
namespace Go.Proofs.YtkmiemlpfkfiiaaDoor
open Tryd
set_option linter.unusedVariables false
set_option linter.unusedSimpArgs false
def Qb7 (c : Xg) (n : Int) (a : Kp) : Bool := a.c == c && a.n == n
def Gh (l : List Kp) (c : Xg) (n : Int) : Int := match l.findIdx? (Qb7 c n) with | some i => i | none => -1
theorem Qk5 {l : List Kp} {c : Xg} {n : Int} (h : ∀ m, m < l.length → Qb7 c n (l.getD m D7) = false) : Gh l c n = -1 := by
 have : l.findIdx? (Qb7 c n) = none := List.findIdx?_eq_none_iff.2 fun x hx => by
  obtain ⟨i, hi, rfl⟩ := List.getElem_of_mem hx
  have := h i hi
  rwa [List.getD_eq_getElem?_getD, List.getElem?_eq_getElem hi] at this
 unfold Gh; rw [this]
theorem Ql9 {l : List Kp} {c : Xg} {n : Int} {i : Nat} (hi : i < l.length) (h : ∀ m, m < i → Qb7 c n (l.getD m D7) = false) (h1 : Qb7 c n (l.getD i D7) = true) : Gh l c n = i := by
 have : l.findIdx? (Qb7 c n) = some i := by
  rw [List.findIdx?_eq_some_iff_getElem]
  refine ⟨hi, by rwa [List.getD_eq_getElem?_getD, List.getElem?_eq_getElem hi] at h1, fun j hj => ?_⟩
  have := h j hj
  rw [List.getD_eq_getElem?_getD, List.getElem?_eq_getElem oM] at this
  simpa using this
 unfold Gh; rw [this]
theorem find_ge {l : List Kp} {c : Xg} {n : Int} : Gh l c n = -1 ∨ ∃ i : Nat, Gh l c n = i ∧ i < l.length := by
 cases e : l.findIdx? (Qb7 c n) with
 | none => left; unfold Gh; rw [e]
 | some j => right; exact ⟨j, by unfold Gh; rw [e], (List.findIdx?_eq_some_iff_getElem.1 e).1⟩
def Qco (w : World) (b off : Nat) : Int := match w.heap[b]? with | some (.cells c _ _) => (match c[off]? with | some (.int _ n) => n | _ => 0) | _ => 0
theorem Qdv {w : World} {b off : Nat} {E : TypeId} {fz : Nat × Nat} {L : List (List Value)} {n : Int} (i : Nat) (hb : w.heap[b]? = some (.cells (Qo L) E fz)) (hg : Qd1 L i = [i64 n]) (hi : Nat.blt i L.length = true := by rfl)
  (ho : Tj L i = off := by first | (simp only [Tj, Ug, List.length_map, List.length_cons, List.length_nil, List.length_replicate] <;> omega) | (simp [Tj, Ug] <;> omega)) : Qco w b off = n := by
 obtain ⟨L1, L3, h1, h2, h3⟩ := cutS L i hi
 have hc : (Qo L)[off]? = some (i64 n) := by rw [h1, hg]; exact Qe6 L1 L3 (i64 n) (h2.trans ho)
 unfold Qco; rw [hb]; simp only [hc]; rfl
theorem Qo1 {l : List Kp} {c : Xg} {n : Int} {i : Nat} (h : ∀ j, j < i → Qb7 c n (l.getD j D7) = false) (h1 : Qb7 c n (l.getD i D7) = false) : ∀ j, j < i + 1 → Qb7 c n (l.getD j D7) = false := by
 intro j hj
 rcases Nat.lt_or_ge j i with h2 | h2
 ·exact h j h2
 obtain rfl : j = i := by omega
 exact h1
theorem trim_del {l : List Kp} {n : Int} (h : n.toNat = l.length - 2000) : l.take (0 : Int).toNat ++ l.drop n.toNat = l.drop (l.length - 2000) := by
 rw [h, show (0 : Int).toNat = 0 from rfl, List.take_zero, List.nil_append]
theorem trim_no {l : List Kp} (h : l.length ≤ 2000) : l = l.drop (l.length - 2000) := by
 rw [show l.length - 2000 = 0 by omega, List.drop_zero]
theorem Qhz (S : Sn) (k : Nat) : S.ks.drop k = (S.trim k).ks := rfl
theorem Qik {S : Sn} {k : Nat} {v : Value} : sS (S.trim k) v = sS S v := rfl
attribute [local irreducible] Qc5 Wu Eh Yg Jj Tc Wp Vd Wn Xk Ae F6 Qe Qi
set_option maxHeartbeats 2000000 in
theorem c_hitK (a : Kp) (bh : Nat) (hc : Xg) (hp hn : Int) (w0 : World)  (hbh : Jl w0 bh = some (.cells (Qo (sH hc hp hn)) 53 (0, 0))) (hcl : hc.length = 32) : X9 prog 51 #[(Value.agg (Qo (sK a.c a.n a.k))), (ptr bh 0)] w0 (fun r w1 => r = (bl (Qb7 hc hn a)) ∧ Ext w0 w1) := by
 refine Zb (args := [(Value.agg (Qo (sK a.c a.n a.k))), (ptr bh 0)]) func51 rfl ntmps51 results51 rfl ?_
 have m0 : Mem w0 (Qu w0) [] := Mem.of_world w0
 have hac := a.hc; have hak := a.hk
 refine sR <| Y9 (F8 (cs := (Qo (sK a.c a.n a.k))) m0 rfl) fun w1 b2 m1 => Zz (bl false) ?_
 refine rN (Qa ?_)
 rcases Bool.eq_false_or_eq_true (a.c == hc) with hb2 | hb2
 ·
  have hb2p := eq_of_beq hb2
  refine Qb <| Qd (Zr (r := 0) Qei rfl Jr Zl rfl rfl) <| Qd (Jv 0 Xq Zl rfl m1.h0 rfl) <| Qd (Zr (r := 0) Ea rfl Jr Zl rfl rfl) <| Qd (Jv 0 Xq Zl rfl (m1.rest _ _ hbh) rfl) <| Qd (Qcc (l := a.c) (m := hc) Xq Gl Y0 eqGuardType23 rfl rfl ysF ysF) <| Zp (bl (a.c == hc)) <| Z5 (s := 9) rfl rfl hb2 rfl (Zr (r := 32) Qei rfl Jr U0 rfl rfl) <| Z5 (s := 9) rfl rfl hb2 rfl (Y8 1 Fj rfl m1.h0 rfl) <| Z5 (s := 9) rfl rfl hb2 rfl (Zr (r := 33) Ea rfl Jr U0 rfl rfl) <| Z5 (s := 9) rfl rfl hb2 rfl (Y8 2 Fj rfl (m1.rest _ _ hbh) rfl) <| Z5 (s := 9) rfl rfl hb2 rfl (Fb rfl rfl) ?_
  refine Qd (Vm rfl hb2 rfl) <| Zz (bl (a.n == hn)) ?_
  refine rN (Xb ?_)
  refine Qv [(bl (a.n == hn))] ⟨rfl, trivial⟩ ?_
  exact ⟨congrArg bl (by unfold Qb7; rw [hb2]; exact (Bool.true_and _).symm), m1.toExt⟩
 ·
  have hb2p := ne_of_beq_false hb2
  refine Qb <| Qd (Zr (r := 0) Qei rfl Jr Zl rfl rfl) <| Qd (Jv 0 Xq Zl rfl m1.h0 rfl) <| Qd (Zr (r := 0) Ea rfl Jr Zl rfl rfl) <| Qd (Jv 0 Xq Zl rfl (m1.rest _ _ hbh) rfl) <| Qd (Qcc (l := a.c) (m := hc) Xq Gl Y0 eqGuardType23 rfl rfl ysF ysF) <| Zp (bl (a.c == hc)) <| W9 (s := 9) rfl rfl hb2 rfl <| W9 (s := 9) rfl rfl hb2 rfl <| W9 (s := 9) rfl rfl hb2 rfl <| W9 (s := 9) rfl rfl hb2 rfl <| W9 (s := 9) rfl rfl hb2 rfl ?_
  refine Qd (Y4 rfl hb2 rfl) <| Zz (bl false) ?_
  refine rN (Xb ?_)
  refine Qv [(bl false)] ⟨rfl, trivial⟩ ?_
  exact ⟨congrArg bl (by unfold Qb7; rw [hb2]; rfl), m1.toExt⟩
set_option maxHeartbeats 2000000 in
theorem c_findK (v : Value) (l : List Kp) (bh : Nat) (hc : Xg) (hp hn : Int) (w0 : World)  (hr : RdK (Jl w0) Jt 65 v l) (hl : l.length ≤ 1048576) (hbh : Jl w0 bh = some (.cells (Qo (sH hc hp hn)) 53 (0, 0))) (hcl : hc.length = 32) : X9 prog 50 #[v, (Value.func (.func 51) #[] #[(ptr bh 0)])] w0 (fun r w1 => r = (i64 (Gh l hc hn)) ∧ Ext w0 w1) := by
 refine Zb (args := [v, (Value.func (.func 51) #[] #[(ptr bh 0)])]) func50 rfl ntmps50 results50 rfl ?_
 have m0 : Mem w0 (Qu w0) [] := Mem.of_world w0
 refine sR <| Zz (i64 0) ?_
 refine rN (Qa (sR ?_))
 refine Zp v <| Qd (Be (RdK.ofRest hr m0) Gu rfl) <| Zp (i64 0) ?_
 refine rN (Qk ?_)
 refine Y7 (fun g wv => ∃ (i : Nat), (i ≤ l.length) ∧ (∀ j, j < i → Qb7 hc hn (l.getD j D7) = false) ∧ g 0 = v ∧ g 1 = (Value.func (.func 51) #[] #[(ptr bh 0)]) ∧ g 7 = (i64 (l.length : Int)) ∧ g 8 = (i64 (i : Int)) ∧ Mem wv (Qu w0) []) (fun g wv => ((l.length : Int) - RowKit.intOf (g 8)).toNat) ?_ ?_
 ·exact ⟨0, (Nat.zero_le _), (fun j hj => absurd hj (Nat.not_lt_zero j)), rfl, rfl, rfl, rfl, m0⟩
 rintro fr1 w2 ⟨i, hi, hno, s0, s1, s7, s8, m2⟩
 have z8 := s8
 refine sR <| Qd (Z9 s8 s7) ?_
 refine rN (Qa ?_)
 refine Z8 rfl (fun hc3 => ?_) (fun hc3 => ?_)
 ·
  have hc3p := of_decide_eq_true hc3
  refine Qs (Qc (Qa (Qk (sR ?_))))
  refine Ya s8 <| Zz (i64 (i : Int)) ?_
  refine rN (sR ?_)
  refine Ya s1 <| Ya s0 <| Zp (i64 (i : Int)) <| Qd (Jb (i := (i : Int)) (RdK.ofRest hr m2) Gu Bz rfl rfl oM sL) <| Qd (v := (Value.agg (Qo (sK ((l.getD i D7).c) ((l.getD i D7).n) ((l.getD i D7).k))))) (Ah (i := (i : Int)) (dflt := D7) (cs := (Qo (sK ((l.getD i D7).c) ((l.getD i D7).n) ((l.getD i D7).k)))) (RdK.ofRest hr m2) sL Qei rfl Bz rfl rfl Jg (kp_a (l.getD i D7))) <| U9 m2 (Qgi (f := 51) rfl func51 bd51 nm51 (Kt rfl) (c_hitK (l.getD i D7) bh hc hp hn _ (m2.rest _ _ hbh) sL)) fun w4 m4 => rN ?_
  refine Z8 rfl (fun hc6 => ?_) (fun hc6 => ?_)
  ·
   refine sR <| Zp (i64 (i : Int)) <| Zz (i64 (i : Int)) ?_
   refine rN (Xb ?_)
   refine La (Y3 (La ?_))
   refine Qv [(i64 (i : Int))] ⟨rfl, trivial⟩ ?_
   exact ⟨congrArg i64 (Ql9 oM hno hc6).symm, m4.toExt⟩
  ·
   refine Qs (Qh (Qb ?_))
   refine Qd (Zg (b := 1) s8 rfl oM oM) <| Zp (i64 ((i : Int) + 1)) <| rN ?_
   exact ⟨⟨(i + 1), oM, (Qo1 hno hc6), s0, s1, s7, rfl, m4⟩, Uo rfl z8 oM oM⟩
 ·
  have hc3p := of_decide_eq_false hc3
  refine X6 ?_
  refine Qm (Qm (Xi ?_))
  refine sR <| Zz (i64 (-1)) ?_
  refine rN (Xb ?_)
  refine Qv [(i64 (-1))] ⟨rfl, trivial⟩ ?_
  exact ⟨congrArg i64 (Qk5 (fun j hj => hno j oM)).symm, m2.toExt⟩
set_option maxHeartbeats 2000000 in
theorem Qq0 (bs : Nat) (S : Sn) (vk : Value) (Hk : List (Nat × Obj)) (to : Int) (w0 : World) (R : Rest) (m0 : Mem w0 R ([(bs, .cells (Qo (sS S vk)) 26 (0, 0))] ++ (Hk ++ ([])))) (hT : Tabs R.blk) (gk : Yz Jt 65 69 vk S.ks Hk) (hto : 0 ≤ to ∧ to ≤ 2147483647) (hn2 : 0 ≤ S.n2 ∧ S.n2 ≤ 2147483648) (hkl : S.ks.length ≤ 100000) : X9 prog 75 #[(ptr bs 0), (i64 to)] w0 (fun r w1 => ∃ vq Hq, r = i64 (Uc S to) ∧ Yz Jt 65 69 vq (Ze S to).ks Hq ∧ Mem w1 R ([(bs, .cells (Qo (sS (Ze S to) vq)) 26 (0, 0))] ++ Hq)) := by
 refine Zb (args := [(ptr bs 0), (i64 to)]) func75 rfl ntmps75 results75 rfl <| sR <| Zz (i64 0) ?_
 refine rN (Qa (sR ?_))
 refine Zp (i64 to) <| Zp (ptr bs 0) <| Qd (Zh rfl) <| Qd (Zr (r := 163) X3 rfl Jr U0 rfl rfl) <| Qd (Y8 8 Fj rfl m0.h0 rfl) <| Qd (Yk rfl rfl oM oM) <| Qd (Gm (b := 1000) rfl rfl) <| rN ?_
 refine Z8 rfl (fun hc1 => ?_) (fun hc1 => ?_)
 ·
  have hc1p := of_decide_eq_true hc1
  refine sR <| Zz (i64 12) ?_
  refine rN (Xb (Y3 ?_))
  refine Qv [(i64 12)] ⟨rfl, trivial⟩ ?_
  have hfar : Qcb S to = true := hc1
  have hlv : Ze S to = S := by unfold Ze; rw [hfar]; rfl
  have hle : Uc S to = 12 := by unfold Uc; rw [hfar]; rfl
  rw [hlv, hle]
  exact ⟨vk, Hk, rfl, gk, (by
   have hT := m0
   try simp only [List.append_assoc, List.cons_append, List.nil_append, List.append_nil] at hT ⊢
   exact hT)⟩
 ·
  have hc1p := of_decide_eq_false hc1
  refine Qs (Qc (Qa (Qk ?_)))
  refine Y7 (fun g wv => ∃ (k : Nat) (vj : Value) (Hj : List (Nat × Obj)), (k ≤ (to - S.n2).toNat) ∧ (Yz Jt 65 69 vj (Zx S k).ks Hj) ∧ g 0 = (ptr bs 0) ∧ g 1 = (i64 to) ∧ g 4 = (i64 0) ∧ g 13 = (bl (decide (1000 < (to - S.n2)))) ∧ Mem wv R ([(bs, .cells (Qo (sS (Zx S k) vj)) 26 (0, 0))] ++ (Hj ++ ([])))) (fun g wv => (to - Qco wv bs 163).toNat) ?_ ?_
  ·exact ⟨0, vk, Hk, (Nat.zero_le _), gk, rfl, rfl, rfl, rfl, m0⟩
  rintro fr2 w3 ⟨k, vj, Hj, hk, gj, s0, s1, s4, s13, m3⟩
  have hz0 : Qco w3 bs 163 = (Zx S k).n2 := Qdv 8 m3.h0 rfl
  have hk2 := Qh2 S k
  have hkn := Qip S k
  refine Qa (sR ?_)
  refine Ya s0 <| Qd (Zh rfl) <| Qd (Zr (r := 163) X3 rfl Jr U0 rfl rfl) <| Qd (Y8 8 Fj rfl m3.h0 rfl) <| Ya s1 <| Qd (Z9 rfl rfl) <| rN ?_
  refine Z8 rfl (fun hc4 => ?_) (fun hc4 => ?_)
  ·
   have hc4p := of_decide_eq_true hc4
   refine Qs (Qc (Qa (Qk (Qa ?_))))
   refine Xl [(0, false), (1, false), (2, false), (3, false), (4, false), (5, false), (6, false), (7, false), (8, false), (9, true)] 10 Xw <| Um rfl s0 <| Yb rfl (Zh rfl) <| Yb rfl (Zr (r := 64) X3 rfl Jr Zl rfl rfl) <| Yn rfl (fun _ e' => Jv 2 Xq Zl rfl (m3.ext e').h0 rfl) <| Um rfl s0 <| Yb rfl (Zh rfl) <| Yb rfl (Zr (r := 163) X3 rfl Jr U0 rfl rfl) <| Yn rfl (fun _ e' => Y8 8 Fj rfl (m3.ext e').h0 rfl) <| Yb rfl (Va (c := (Qo (sK ((Zx S k).o) ((Zx S k).n2) (List.replicate 32 0)))) (pl := [(0, 32), (32, 1), (33, 32)]) Bz Qei Xw (J3 (i := 0) (v := (agg u8 ((Zx S k).o))) (cs := (cl u8 ((Zx S k).o))) rfl rfl (J3 (i := 1) (v := (i64 ((Zx S k).n2))) (cs := #[(i64 ((Zx S k).n2))]) rfl rfl V3)) (V9 (L := (sK (List.replicate 32 0) 0 (List.replicate 32 0))) 0 (sK ((Zx S k).o) 0 (List.replicate 32 0)) rfl (Gt u8 _).symm rfl (V9 1 (sK ((Zx S k).o) ((Zx S k).n2) (List.replicate 32 0)) rfl rfl rfl Dq))) ?_
   refine Cj rfl rfl (fun w5 e5 => ?_)
   have m5 := m3.ext e5
   refine Vp.mono (Ji m5 Bz) ?_
   rintro _ w6 ⟨b5, rfl, e6, m6⟩
   refine ⟨e6, ?_⟩
   refine Gs m6 fun w7 m7 => Vk (Ub [((Zx S k).o).map u8, [(i64 ((Zx S k).n2))], (List.replicate 32 0).map u8] Bz rfl rfl (Ej (n := 32) (m := 33) (k := 65) (by first | rfl | (rw [List.length_map]; first | omega | (simp; done) | (simp; omega))) (Ej (n := 1) (m := 32) (k := 33) rfl (Ej (n := 32) (m := 0) (k := 32) (by first | rfl | (rw [List.length_map]; first | omega | (simp; done) | (simp; omega))) Qdb rfl) rfl) rfl) (Yr (Jo Qy _) (Yr (X4 (Z4 _) Kw) (Yr (Jo Qy _) Fa))) m7.h0 rfl rfl) ?_
   rintro _ w8 uq8
   have m8 : Mem _ _ ([(b5, .cells (Qo (sK ((Zx S k).o) ((Zx S k).n2) (List.replicate 32 0))) 69 (0, 0)), _] ++ (Hj ++ ([]))) := m7.upd0 uq8
   refine rN (sR ?_)
   refine Ya s0 <| Ya s0 <| Qd (Zh rfl) <| Qd (Zr (r := 130) X3 rfl Jr Zl rfl rfl) <| Qd (Jv 6 Xq Zl rfl m8.h1 rfl) <| U9 m8 (oc32 (Kt rfl) (Qpo _ _ (hT.mono fun b o e => (m8).rest b o e) sL)) fun w9 m9 => Ya rfl <| Qd (v := (agg u8 (Xk ((Zx S k).t) [2#8]))) (Zm rfl rfl) <| Qd (v := (agg u8 (Xk ((Zx S k).t) [1#8]))) (Zm rfl rfl) <| Qd (Zh rfl) <| Qd (Zr (r := 130) X3 rfl Jr Zl rfl rfl) <| Vz m9 (Uj 6 (sE ((Zx S k).r) ((Zx S k).w) ((Zx S k).o) ((Zx S k).sb) ((Zx S k).tb) ((Zx S k).s) (Xk ((Zx S k).t) [2#8]) ((Zx S k).n1) ((Zx S k).n2) ((Zx S k).n3) vj) Qy Zl rfl rfl m9.h1 rfl) fun w11 m11 => Qd (Zr (r := 33) Qei rfl Jr Zl rfl rfl) <| Ye m11 (Uj 2 (sK ((Zx S k).o) ((Zx S k).n2) (Xk ((Zx S k).t) [1#8])) Qy Zl rfl rfl m11.h0 rfl) fun w12 m12 => rN <| Kr Xw ?_
   have m13 := (Mem.pick [_] [_] _ m12)
   have m14 := (Mem.pick [_] [_] _ m13)
   have m15 := (Mem.pick [_, _] Hj _ m14)
   have hFM16 : Mem w12 R ((Hj ++ ([])) ++ [(b5, .cells (Qo (sK ((Zx S k).o) ((Zx S k).n2) (Xk ((Zx S k).t) [1#8]))) 69 (0, 0)), (bs, .cells (Qo (sE ((Zx S k).r) ((Zx S k).w) ((Zx S k).o) ((Zx S k).sb) ((Zx S k).tb) ((Zx S k).s) (Xk ((Zx S k).t) [2#8]) ((Zx S k).n1) ((Zx S k).n2) ((Zx S k).n3) vj)) 26 (0, 0))]) := ymA m15
   obtain ⟨RM16, hRM16⟩ : ∃ R2, R2 = Rest.add R [(b5, .cells (Qo (sK ((Zx S k).o) ((Zx S k).n2) (Xk ((Zx S k).t) [1#8]))) 69 (0, 0)), (bs, .cells (Qo (sE ((Zx S k).r) ((Zx S k).w) ((Zx S k).o) ((Zx S k).sb) ((Zx S k).tb) ((Zx S k).s) (Xk ((Zx S k).t) [2#8]) ((Zx S k).n1) ((Zx S k).n2) ((Zx S k).n3) vj)) 26 (0, 0))] := ⟨_, rfl⟩
   have M160 : Mem w12 RM16 (Hj ++ ([])) := by rw [hRM16]; exact Mem.give hFM16
   have ho17 : RM16.blk b5 = some (.cells (Qo (sK ((Zx S k).o) ((Zx S k).n2) (Xk ((Zx S k).t) [1#8]))) 69 (0, 0)) := by rw [hRM16]; exact Mem.addOwn hFM16 (List.Mem.head _)
   have ho18 : RM16.blk bs = some (.cells (Qo (sE ((Zx S k).r) ((Zx S k).w) ((Zx S k).o) ((Zx S k).sb) ((Zx S k).tb) ((Zx S k).s) (Xk ((Zx S k).t) [2#8]) ((Zx S k).n1) ((Zx S k).n2) ((Zx S k).n3) vj)) 26 (0, 0)) := by rw [hRM16]; exact Mem.addOwn hFM16 (List.Mem.tail _ (List.Mem.head _))
   have hT19 : Tabs RM16.blk := by rw [hRM16]; exact Tabs.mono hT fun b o e => Mem.addRest hFM16 e
   refine Dl M160 [(0, false), (1, false), (2, false), (3, false), (4, false), (5, false), (6, true), (7, true)] 8 rfl Xw <| N8 rfl (Yp s0) <| N8 rfl (Yp s0) <| N8 rfl (Zh rfl) <| N8 rfl (Zr (r := 165) X3 rfl Jr Aq rfl rfl) <| yqH rfl (fun w _H _hx => Y8 10 Gu rfl (_hx.rest _ _ ho18) rfl) <| yqH rfl (fun w _H _hx => Jk Qei Bz rfl (_hx.rest _ _ ho17)) ?_
   refine Qeu rfl rfl (fun w20 e20 => ?_)
   have m20 := M160.ext e20
   refine Vp.mono (Az (cs := (Qo (sK ((Zx S k).o) ((Zx S k).n2) (Xk ((Zx S k).t) [1#8])))) m20 Gu Bz rfl rfl rfl (by rw [U5]; first | (simp; done) | (simp; omega))) ?_
   rintro _ w21 ⟨b54, rfl, e21, m21⟩
   have m21 : Mem w21 RM16 ([(b54, .cells (Qo (sK ((Zx S k).o) ((Zx S k).n2) (Xk ((Zx S k).t) [1#8]))) 69 (0, 0))] ++ (Hj ++ ([]))) := m21
   refine ⟨⟨_, m21⟩, ?_⟩
   refine Qeu rfl rfl (fun w22 e22 => ?_)
   have m22 := m21.ext e22
   refine Vp.mono (Ad (enc := Jt) (k := 65) (Hs := Hj) (H := [_]) (Mem.pick [_] Hj _ m22) gj rfl rfl (RdK.ofOne (enc := Jt) (k := 65) (a := (Kp.mk ((Zx S k).o) ((Zx S k).n2) (Xk ((Zx S k).t) [1#8]) sD sD)) m22.h0 rfl (Qgt _)) Gu Gu Bz rfl rfl (fun a _ => P6 a) sL sL) ?_
   rintro sv23 w23 ⟨Hs23, m23, g23⟩
   replace g23 : Yz Jt 65 69 sv23 (((Zx S k).ks) ++ ([(Kp.mk ((Zx S k).o) ((Zx S k).n2) (Xk ((Zx S k).t) [1#8]) sD sD)])) Hs23 := g23
   refine ⟨⟨_, m23⟩, ?_⟩
   refine Gs m23 fun w24 m24 => ?_
   have hX25 := m24
   rw [hRM16] at hX25
   have m26 : Mem w24 R (Hs23 ++ ([(b54, .cells (Qo (sK ((Zx S k).o) ((Zx S k).n2) (Xk ((Zx S k).t) [1#8]))) 69 (0, 0)), (b5, .cells (Qo (sK ((Zx S k).o) ((Zx S k).n2) (Xk ((Zx S k).t) [1#8]))) 69 (0, 0)), (bs, .cells (Qo (sE ((Zx S k).r) ((Zx S k).w) ((Zx S k).o) ((Zx S k).sb) ((Zx S k).tb) ((Zx S k).s) (Xk ((Zx S k).t) [2#8]) ((Zx S k).n1) ((Zx S k).n2) ((Zx S k).n3) vj)) 26 (0, 0))])) := ymA (Mem.back hFM16 hX25)
   refine Qd (Zh rfl) <| Qd (Zr (r := 165) X3 rfl Jr Aq rfl rfl) <| Vk (Ui 10 (sE ((Zx S k).r) ((Zx S k).w) ((Zx S k).o) ((Zx S k).sb) ((Zx S k).tb) ((Zx S k).s) (Xk ((Zx S k).t) [2#8]) ((Zx S k).n1) ((Zx S k).n2) ((Zx S k).n3) sv23) Aq rfl rfl g23.one ((Mem.pick2 Hs23 [_, _] [_] _ m26)).h0 rfl rfl) ?_
   rintro _ w27 uq27
   have m27 : Mem _ _ ([_] ++ (Hs23 ++ ([_, _]))) := Mem.upd0 (Mem.pick2 Hs23 [_, _] [_] _ m26) uq27
   refine Zv (Qh (Qb ?_))
   refine Ya s0 <| Qd (Zh rfl) <| Qd (Zr (r := 163) X3 rfl Jr U0 rfl rfl) <| Qd (Y8 8 Fj rfl m27.h0 rfl) <| Qd (Zg (b := 1) rfl rfl oM oM) <| Qd (Zh rfl) <| Qd (Zr (r := 163) X3 rfl Jr U0 rfl rfl) <| Ye m27 (Ui 8 (sE ((Zx S k).r) ((Zx S k).w) ((Zx S k).o) ((Zx S k).sb) ((Zx S k).tb) ((Zx S k).s) (Xk ((Zx S k).t) [2#8]) ((Zx S k).n1) (((Zx S k).n2) + 1) ((Zx S k).n3) sv23) U0 rfl rfl (Z4 _) m27.h0 rfl rfl) fun w28 m28 => rN ?_
   have m29 := Mem.drop [_] _ (Mem.pick2 [_] Hs23 [_] _ m28)
   have m30 := Mem.drop [_] _ (Mem.pick2 [_] Hs23 [_] _ m29)
   exact ⟨⟨(k + 1), sv23, Hs23, oM, (Yz.cast g23 (by first | rfl | simp [Zx, Sn.skip])), s0, s1, s4, s13, m30⟩, (by have hz1 : Qco w28 bs 163 = (Zx S k).n2 + 1 := Qdv 8 m30.h0 rfl; show (to - Qco _ bs 163).toNat < (to - Qco _ bs 163).toNat; rw [hz0, hz1]; omega)⟩
  ·
   have hc4p := of_decide_eq_false hc4
   obtain rfl : k = (to - S.n2).toNat := by omega
   refine X6 ?_
   refine Qm (Qm (Xi ?_))
   refine Qa (sR ?_)
   refine Ya s0 <| Qd (Zh rfl) <| Qd (Zr (r := 165) X3 rfl Jr Aq rfl rfl) <| Qd (Y8 10 Gu rfl m3.h0 rfl) <| Qd (Be (gj.rd (Mem.pick [_] Hj _ m3)) Gu rfl) <| Qd (Yk (b := 2000) rfl rfl oM oM) <| Zz (i64 ((((Zx S (to - S.n2).toNat).ks).length : Int) - 2000)) ?_
   refine rN (sR ?_)
   refine Zp (i64 ((((Zx S (to - S.n2).toNat).ks).length : Int) - 2000)) <| Qd (Gm (b := 0) rfl rfl) <| rN ?_
   refine Z8 rfl (fun hc31 => ?_) (fun hc31 => ?_)
   ·
    have hc31p := of_decide_eq_true hc31
    refine Qb <| Ya s0 <| Ya s0 <| Qd (Zh rfl) <| Qd (Zr (r := 165) X3 rfl Jr Aq rfl rfl) <| Qd (Y8 10 Gu rfl m3.h0 rfl) <| Zp (i64 ((((Zx S (to - S.n2).toNat).ks).length : Int) - 2000)) ?_
    have hF33 : Mem w3 R ((Hj ++ ([])) ++ ([(bs, .cells (Qo (sS (Zx S (to - S.n2).toNat) vj)) 26 (0, 0))])) := by
     have hT := (Mem.pick [_] Hj _ m3)
     try simp only [List.append_assoc, List.cons_append, List.nil_append, List.append_nil] at hT ⊢
     exact hT
    refine Vy (oc52 (D6 rfl rfl rfl) (c_delK vj ((Zx S (to - S.n2).toNat).ks) Hj (0 : Int) ((((Zx S (to - S.n2).toNat).ks).length : Int) - 2000) _ _ (Mem.give hF33) gj (by refine ⟨?_, ?_, ?_⟩ <;> first | omega | (simp; omega)) sL)) ?_
    rintro rq34 w32 ⟨Hqq34, grq34, k_w32⟩
    have m32 : Mem w32 R (Hqq34 ++ ([(bs, .cells (Qo (sS (Zx S (to - S.n2).toNat) vj)) 26 (0, 0))])) := ymA (Mem.back hF33 k_w32)
    refine Qd (Zh rfl) <| Qd (Zr (r := 165) X3 rfl Jr Aq rfl rfl) <| Vk (Ui 10 (sS (Zx S (to - S.n2).toNat) rq34) Aq rfl rfl grq34.one ((Mem.pick Hqq34 [_] _ m32)).h0 rfl rfl) ?_
    rintro _ w35 uq35
    have m35 : Mem _ _ ([_] ++ (Hqq34 ++ ([]))) := Mem.upd0 (Mem.pick Hqq34 [_] _ m32) uq35
    refine rN (sR ?_)
    refine Zz (i64 0) ?_
    refine rN (Xb ?_)
    refine Qv [(i64 0)] ⟨rfl, trivial⟩ ?_
    have hfar : Qcb S to = false := hc1
    have hlv : Ze S to = (Zx S (to - S.n2).toNat).trim ((Zx S (to - S.n2).toNat).ks.length - 2000) := by unfold Ze Qi5; rw [hfar]; rfl
    have hle : Uc S to = 0 := by unfold Uc; rw [hfar]; rfl
    rw [hlv, hle]
    exact ⟨rq34, Hqq34, rfl, Yz.cast grq34 ((trim_del (l := (Zx S (to - S.n2).toNat).ks) oM).trans (Qhz _ _)), (by rw [Qik]; exact (by
     have hT := m35
     try simp only [List.append_assoc, List.cons_append, List.nil_append, List.append_nil] at hT ⊢
     exact hT))⟩
   ·
    have hc31p := of_decide_eq_false hc31
    refine Qs (Qc (sR ?_))
    refine Zz (i64 0) ?_
    refine rN (Xb ?_)
    refine Qv [(i64 0)] ⟨rfl, trivial⟩ ?_
    have hfar : Qcb S to = false := hc1
    have hlv : Ze S to = (Zx S (to - S.n2).toNat).trim ((Zx S (to - S.n2).toNat).ks.length - 2000) := by unfold Ze Qi5; rw [hfar]; rfl
    have hle : Uc S to = 0 := by unfold Uc; rw [hfar]; rfl
    rw [hlv, hle]
    exact ⟨vj, Hj, rfl, Yz.cast gj ((trim_no (l := (Zx S (to - S.n2).toNat).ks) oM).trans (Qhz _ _)), (by rw [Qik]; exact (by
     have hT := m3
     try simp only [List.append_assoc, List.cons_append, List.nil_append, List.append_nil] at hT ⊢
     exact hT))⟩
end Go.Proofs.YtkmiemlpfkfiiaaDoor
