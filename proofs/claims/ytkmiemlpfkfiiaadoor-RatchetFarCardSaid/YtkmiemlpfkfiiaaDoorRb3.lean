/- The ratchet: searches; keys that are left out. Conditions: none beyond those that each theorem states. -/
import Derived.Test.YtkmiemlpfkfiiaaDoorRb2
namespace Go.Proofs.YtkmiemlpfkfiiaaDoor
open Tryd
set_option linter.unusedVariables false
set_option linter.unusedSimpArgs false
def Qa8 (c : Zj) (n : Int) (a : Kp) : Bool := a.c == c && a.n == n
def Wv (l : List Kp) (c : Zj) (n : Int) : Int := match l.findIdx? (Qa8 c n) with | some i => i | none => -1
theorem Qn3 {l : List Kp} {c : Zj} {n : Int} (h : ∀ m, m < l.length → Qa8 c n (l.getD m Ep) = false) : Wv l c n = -1 := by
 have : l.findIdx? (Qa8 c n) = none := List.findIdx?_eq_none_iff.2 fun x hx => by
  obtain ⟨i, hi, rfl⟩ := List.getElem_of_mem hx
  have := h i hi
  rwa [List.getD_eq_getElem?_getD, List.getElem?_eq_getElem hi] at this
 unfold Wv; rw [this]
theorem Qmr {l : List Kp} {c : Zj} {n : Int} {i : Nat} (hi : i < l.length) (h : ∀ m, m < i → Qa8 c n (l.getD m Ep) = false) (h1 : Qa8 c n (l.getD i Ep) = true) : Wv l c n = i := by
 have : l.findIdx? (Qa8 c n) = some i := by
  rw [List.findIdx?_eq_some_iff_getElem]
  refine ⟨hi, by rwa [List.getD_eq_getElem?_getD, List.getElem?_eq_getElem hi] at h1, fun j hj => ?_⟩
  have := h j hj
  rw [List.getD_eq_getElem?_getD, List.getElem?_eq_getElem oM] at this
  simpa using this
 unfold Wv; rw [this]
theorem find_ge {l : List Kp} {c : Zj} {n : Int} : Wv l c n = -1 ∨ ∃ i : Nat, Wv l c n = i ∧ i < l.length := by
 cases e : l.findIdx? (Qa8 c n) with
 | none => left; unfold Wv; rw [e]
 | some j => right; exact ⟨j, by unfold Wv; rw [e], (List.findIdx?_eq_some_iff_getElem.1 e).1⟩
def Qgb (w : World) (b off : Nat) : Int := match w.heap[b]? with | some (.cells c _ _) => (match c[off]? with | some (.int _ n) => n | _ => 0) | _ => 0
theorem Qhm {w : World} {b off : Nat} {E : TypeId} {fz : Nat × Nat} {L : List (List Value)} {n : Int} (i : Nat) (hb : w.heap[b]? = some (.cells (Qp L) E fz)) (hg : Qbq L i = [i64 n]) (hi : Nat.blt i L.length = true := by rfl)
  (ho : Ll L i = off := by first | (simp only [Ll, Fz, List.length_map, List.length_cons, List.length_nil, List.length_replicate] <;> omega) | (simp [Ll, Fz] <;> omega)) : Qgb w b off = n := by
 obtain ⟨L1, L3, h1, h2, h3⟩ := cutS L i hi
 have hc : (Qp L)[off]? = some (i64 n) := by rw [h1, hg]; exact Qb7 L1 L3 (i64 n) (h2.trans ho)
 unfold Qgb; rw [hb]; simp only [hc]; rfl
theorem hits_S {l : List Kp} {c : Zj} {n : Int} {i : Nat} (h : ∀ j, j < i → Qa8 c n (l.getD j Ep) = false) (h1 : Qa8 c n (l.getD i Ep) = false) : ∀ j, j < i + 1 → Qa8 c n (l.getD j Ep) = false := by
 intro j hj
 rcases Nat.lt_or_ge j i with h2 | h2
 ·exact h j h2
 obtain rfl : j = i := by omega
 exact h1
theorem trim_del {l : List Kp} {n : Int} (h : n.toNat = l.length - 2000) : l.take (0 : Int).toNat ++ l.drop n.toNat = l.drop (l.length - 2000) := by
 rw [h, show (0 : Int).toNat = 0 from rfl, List.take_zero, List.nil_append]
theorem trim_no {l : List Kp} (h : l.length ≤ 2000) : l = l.drop (l.length - 2000) := by
 rw [show l.length - 2000 = 0 by omega, List.drop_zero]
theorem Qeo (S : Sn) (k : Nat) : S.ks.drop k = (S.trim k).ks := rfl
theorem Qjh {S : Sn} {k : Nat} {v : Value} : sS (S.trim k) v = sS S v := rfl
attribute [local irreducible] Ak Va D7 Ya Yq Gy J9 Jz Ja Zu Wi Ko Qi Q7
set_option maxHeartbeats 2000000 in
theorem c_hitK (a : Kp) (bh : Nat) (hc : Zj) (hp hn : Int) (w0 : World)  (hbh : Yn w0 bh = some (.cells (Qp (sH hc hp hn)) 53 (0, 0))) (hcl : hc.length = 32) : Xm prog 51 #[(Value.agg (Qp (sK a.c a.n a.k))), (ptr bh 0)] w0 (fun r w1 => r = (bl (Qa8 hc hn a)) ∧ Ext w0 w1) := by
 refine Qy (args := [(Value.agg (Qp (sK a.c a.n a.k))), (ptr bh 0)]) func51 rfl ntmps51 results51 rfl ?_
 have m0 : Mem w0 (Qu w0) [] := Mem.of_world w0
 have hac := a.hc; have hak := a.hk
 refine sR <| Y5 (Uk (cs := (Qp (sK a.c a.n a.k))) m0 rfl) fun w1 b2 m1 => Zv (bl false) ?_
 refine rN (Qc ?_)
 rcases Bool.eq_false_or_eq_true (a.c == hc) with hb2 | hb2
 ·
  have hb2p := eq_of_beq hb2
  refine Qb <| Qd (Zd (r := 0) Qe4 rfl Yy Zi rfl rfl) <| Qd (Y8 0 Xf Zi rfl m1.h0 rfl) <| Qd (Zd (r := 0) La rfl Yy Zi rfl rfl) <| Qd (Y8 0 Xf Zi rfl (m1.rest _ _ hbh) rfl) <| Qd (Qcr (l := a.c) (m := hc) Xf Uu Yw eqGuardType23 rfl rfl ysF ysF) <| Zb (bl (a.c == hc)) <| Zt (s := 9) rfl rfl hb2 rfl (Zd (r := 32) Qe4 rfl Yy Dj rfl rfl) <| Zt (s := 9) rfl rfl hb2 rfl (Yp 1 Di rfl m1.h0 rfl) <| Zt (s := 9) rfl rfl hb2 rfl (Zd (r := 33) La rfl Yy Dj rfl rfl) <| Zt (s := 9) rfl rfl hb2 rfl (Yp 2 Di rfl (m1.rest _ _ hbh) rfl) <| Zt (s := 9) rfl rfl hb2 rfl (J5 rfl rfl) ?_
  refine Qd (V7 rfl hb2 rfl) <| Zv (bl (a.n == hn)) ?_
  refine rN (Zy ?_)
  refine Qs [(bl (a.n == hn))] ⟨rfl, trivial⟩ ?_
  exact ⟨congrArg bl (by unfold Qa8; rw [hb2]; exact (Bool.true_and _).symm), m1.toExt⟩
 ·
  have hb2p := ne_of_beq_false hb2
  refine Qb <| Qd (Zd (r := 0) Qe4 rfl Yy Zi rfl rfl) <| Qd (Y8 0 Xf Zi rfl m1.h0 rfl) <| Qd (Zd (r := 0) La rfl Yy Zi rfl rfl) <| Qd (Y8 0 Xf Zi rfl (m1.rest _ _ hbh) rfl) <| Qd (Qcr (l := a.c) (m := hc) Xf Uu Yw eqGuardType23 rfl rfl ysF ysF) <| Zb (bl (a.c == hc)) <| Na (s := 9) rfl rfl hb2 rfl <| Na (s := 9) rfl rfl hb2 rfl <| Na (s := 9) rfl rfl hb2 rfl <| Na (s := 9) rfl rfl hb2 rfl <| Na (s := 9) rfl rfl hb2 rfl ?_
  refine Qd (Js rfl hb2 rfl) <| Zv (bl false) ?_
  refine rN (Zy ?_)
  refine Qs [(bl false)] ⟨rfl, trivial⟩ ?_
  exact ⟨congrArg bl (by unfold Qa8; rw [hb2]; rfl), m1.toExt⟩
set_option maxHeartbeats 2000000 in
theorem c_findK (v : Value) (l : List Kp) (bh : Nat) (hc : Zj) (hp hn : Int) (w0 : World)  (hr : RdK (Yn w0) Yz 65 v l) (hl : l.length ≤ 1048576) (hbh : Yn w0 bh = some (.cells (Qp (sH hc hp hn)) 53 (0, 0))) (hcl : hc.length = 32) : Xm prog 50 #[v, (Value.func (.func 51) #[] #[(ptr bh 0)])] w0 (fun r w1 => r = (i64 (Wv l hc hn)) ∧ Ext w0 w1) := by
 refine Qy (args := [v, (Value.func (.func 51) #[] #[(ptr bh 0)])]) func50 rfl ntmps50 results50 rfl ?_
 have m0 : Mem w0 (Qu w0) [] := Mem.of_world w0
 refine sR <| Zv (i64 0) ?_
 refine rN (Qc (sR ?_))
 refine Zb v <| Qd (Ux (RdK.ofRest hr m0) Gt rfl) <| Zb (i64 0) ?_
 refine rN (Qj ?_)
 refine Jq (fun g wv => ∃ (i : Nat), (i ≤ l.length) ∧ (∀ j, j < i → Qa8 hc hn (l.getD j Ep) = false) ∧ g 0 = v ∧ g 1 = (Value.func (.func 51) #[] #[(ptr bh 0)]) ∧ g 7 = (i64 (l.length : Int)) ∧ g 8 = (i64 (i : Int)) ∧ Mem wv (Qu w0) []) (fun g wv => ((l.length : Int) - RowKit.intOf (g 8)).toNat) ?_ ?_
 ·exact ⟨0, (Nat.zero_le _), (fun j hj => absurd hj (Nat.not_lt_zero j)), rfl, rfl, rfl, rfl, m0⟩
 rintro fr1 w2 ⟨i, hi, hno, s0, s1, s7, s8, m2⟩
 have z8 := s8
 refine sR <| Qd (Xy s8 s7) ?_
 refine rN (Qc ?_)
 refine Xb rfl (fun hc3 => ?_) (fun hc3 => ?_)
 ·
  have hc3p := of_decide_eq_true hc3
  refine Qo (Qa (Qc (Qj (sR ?_))))
  refine Yk s8 <| Zv (i64 (i : Int)) ?_
  refine rN (sR ?_)
  refine Yk s1 <| Yk s0 <| Zb (i64 (i : Int)) <| Qd (Wx (i := (i : Int)) (RdK.ofRest hr m2) Gt Np rfl rfl oM sL) <| Qd (v := (Value.agg (Qp (sK ((l.getD i Ep).c) ((l.getD i Ep).n) ((l.getD i Ep).k))))) (Af (i := (i : Int)) (dflt := Ep) (cs := (Qp (sK ((l.getD i Ep).c) ((l.getD i Ep).n) ((l.getD i Ep).k)))) (RdK.ofRest hr m2) sL Qe4 rfl Np rfl rfl Yh (kp_a (l.getD i Ep))) <| Dx m2 (Qdf (f := 51) rfl func51 bd51 nm51 (Jb rfl) (c_hitK (l.getD i Ep) bh hc hp hn _ (m2.rest _ _ hbh) sL)) fun w4 m4 => rN ?_
  refine Xb rfl (fun hc6 => ?_) (fun hc6 => ?_)
  ·
   refine sR <| Zb (i64 (i : Int)) <| Zv (i64 (i : Int)) ?_
   refine rN (Zy ?_)
   refine Qco (Y7 (Qco ?_))
   refine Qs [(i64 (i : Int))] ⟨rfl, trivial⟩ ?_
   exact ⟨congrArg i64 (Qmr oM hno hc6).symm, m4.toExt⟩
  ·
   refine Qo (Qh (Qb ?_))
   refine Qd (Z9 (b := 1) s8 rfl oM oM) <| Zb (i64 ((i : Int) + 1)) <| rN ?_
   exact ⟨⟨(i + 1), oM, (hits_S hno hc6), s0, s1, s7, rfl, m4⟩, Am rfl z8 oM oM⟩
 ·
  have hc3p := of_decide_eq_false hc3
  refine Yc ?_
  refine Qr (Qr (Xp ?_))
  refine sR <| Zv (i64 (-1)) ?_
  refine rN (Zy ?_)
  refine Qs [(i64 (-1))] ⟨rfl, trivial⟩ ?_
  exact ⟨congrArg i64 (Qn3 (fun j hj => hno j oM)).symm, m2.toExt⟩
set_option maxHeartbeats 2000000 in
theorem Qm5 (bs : Nat) (S : Sn) (vk : Value) (Hk : List (Nat × Obj)) (to : Int) (w0 : World) (R : Rest) (m0 : Mem w0 R ([(bs, .cells (Qp (sS S vk)) 26 (0, 0))] ++ (Hk ++ ([])))) (hT : Tabs R.blk) (gk : Yf Yz 65 69 vk S.ks Hk) (hto : 0 ≤ to ∧ to ≤ 2147483647) (hn2 : 0 ≤ S.n2 ∧ S.n2 ≤ 2147483648) (hkl : S.ks.length ≤ 100000) : Xm prog 75 #[(ptr bs 0), (i64 to)] w0 (fun r w1 => ∃ vq Hq, r = i64 (Wn S to) ∧ Yf Yz 65 69 vq (Xw S to).ks Hq ∧ Mem w1 R ([(bs, .cells (Qp (sS (Xw S to) vq)) 26 (0, 0))] ++ Hq)) := by
 refine Qy (args := [(ptr bs 0), (i64 to)]) func75 rfl ntmps75 results75 rfl <| sR <| Zv (i64 0) ?_
 refine rN (Qc (sR ?_))
 refine Zb (i64 to) <| Zb (ptr bs 0) <| Qd (Qm rfl) <| Qd (Zd (r := 163) X6 rfl Yy Dj rfl rfl) <| Qd (Yp 8 Di rfl m0.h0 rfl) <| Qd (Kw rfl rfl oM oM) <| Qd (Cm (b := 1000) rfl rfl) <| rN ?_
 refine Xb rfl (fun hc1 => ?_) (fun hc1 => ?_)
 ·
  have hc1p := of_decide_eq_true hc1
  refine sR <| Zv (i64 12) ?_
  refine rN (Zy (Y7 ?_))
  refine Qs [(i64 12)] ⟨rfl, trivial⟩ ?_
  have hfar : Pn S to = true := hc1
  have hlv : Xw S to = S := by unfold Xw; rw [hfar]; rfl
  have hle : Wn S to = 12 := by unfold Wn; rw [hfar]; rfl
  rw [hlv, hle]
  exact ⟨vk, Hk, rfl, gk, (by
   have hT := m0
   try simp only [List.append_assoc, List.cons_append, List.nil_append, List.append_nil] at hT ⊢
   exact hT)⟩
 ·
  have hc1p := of_decide_eq_false hc1
  refine Qo (Qa (Qc (Qj ?_)))
  refine Jq (fun g wv => ∃ (k : Nat) (vj : Value) (Hj : List (Nat × Obj)), (k ≤ (to - S.n2).toNat) ∧ (Yf Yz 65 69 vj (Zp S k).ks Hj) ∧ g 0 = (ptr bs 0) ∧ g 1 = (i64 to) ∧ g 4 = (i64 0) ∧ g 13 = (bl (decide (1000 < (to - S.n2)))) ∧ Mem wv R ([(bs, .cells (Qp (sS (Zp S k) vj)) 26 (0, 0))] ++ (Hj ++ ([])))) (fun g wv => (to - Qgb wv bs 163).toNat) ?_ ?_
  ·exact ⟨0, vk, Hk, (Nat.zero_le _), gk, rfl, rfl, rfl, rfl, m0⟩
  rintro fr2 w3 ⟨k, vj, Hj, hk, gj, s0, s1, s4, s13, m3⟩
  have hz0 : Qgb w3 bs 163 = (Zp S k).n2 := Qhm 8 m3.h0 rfl
  have hk2 := Qeq S k
  have hkn := Tf S k
  refine Qc (sR ?_)
  refine Yk s0 <| Qd (Qm rfl) <| Qd (Zd (r := 163) X6 rfl Yy Dj rfl rfl) <| Qd (Yp 8 Di rfl m3.h0 rfl) <| Yk s1 <| Qd (Xy rfl rfl) <| rN ?_
  refine Xb rfl (fun hc4 => ?_) (fun hc4 => ?_)
  ·
   have hc4p := of_decide_eq_true hc4
   refine Qo (Qa (Qc (Qj (Qc ?_))))
   refine Xj [(0, false), (1, false), (2, false), (3, false), (4, false), (5, false), (6, false), (7, false), (8, false), (9, true)] 10 Xh <| yqE rfl s0 <| Xq rfl (Qm rfl) <| Xq rfl (Zd (r := 64) X6 rfl Yy Zi rfl rfl) <| Y6 rfl (fun _ e' => Y8 2 Xf Zi rfl (m3.ext e').h0 rfl) <| yqE rfl s0 <| Xq rfl (Qm rfl) <| Xq rfl (Zd (r := 163) X6 rfl Yy Dj rfl rfl) <| Y6 rfl (fun _ e' => Yp 8 Di rfl (m3.ext e').h0 rfl) <| Xq rfl (Ky (c := (Qp (sK ((Zp S k).o) ((Zp S k).n2) (List.replicate 32 0)))) (pl := [(0, 32), (32, 1), (33, 32)]) Np Qe4 Xh (Yx (i := 0) (v := (agg u8 ((Zp S k).o))) (cs := (cl u8 ((Zp S k).o))) rfl rfl (Yx (i := 1) (v := (i64 ((Zp S k).n2))) (cs := #[(i64 ((Zp S k).n2))]) rfl rfl V5)) (Vb (L := (sK (List.replicate 32 0) 0 (List.replicate 32 0))) 0 (sK ((Zp S k).o) 0 (List.replicate 32 0)) rfl (Ws u8 _).symm rfl (Vb 1 (sK ((Zp S k).o) ((Zp S k).n2) (List.replicate 32 0)) rfl rfl rfl Dc))) ?_
   refine Ba rfl rfl (fun w5 e5 => ?_)
   have m5 := m3.ext e5
   refine J8.mono (Yu m5 Np) ?_
   rintro _ w6 ⟨b5, rfl, e6, m6⟩
   refine ⟨e6, ?_⟩
   refine Ug m6 fun w7 m7 => Ve (Wl [((Zp S k).o).map u8, [(i64 ((Zp S k).n2))], (List.replicate 32 0).map u8] Np rfl rfl (Gn (n := 32) (m := 33) (k := 65) (by first | rfl | (rw [List.length_map]; first | omega | (simp; done) | (simp; omega))) (Gn (n := 1) (m := 32) (k := 33) rfl (Gn (n := 32) (m := 0) (k := 32) (by first | rfl | (rw [List.length_map]; first | omega | (simp; done) | (simp; omega))) Tz rfl) rfl) rfl) (Xt (Yj Q9 _) (Xt (Zz (Jn _) Jm) (Xt (Yj Q9 _) Ui))) m7.h0 rfl rfl) ?_
   rintro _ w8 uq8
   have m8 : Mem _ _ ([(b5, .cells (Qp (sK ((Zp S k).o) ((Zp S k).n2) (List.replicate 32 0))) 69 (0, 0)), _] ++ (Hj ++ ([]))) := m7.upd0 uq8
   refine rN (sR ?_)
   refine Yk s0 <| Yk s0 <| Qd (Qm rfl) <| Qd (Zd (r := 130) X6 rfl Yy Zi rfl rfl) <| Qd (Y8 6 Xf Zi rfl m8.h1 rfl) <| Dx m8 (oc32 (Jb rfl) (Qlw _ _ (hT.mono fun b o e => (m8).rest b o e) sL)) fun w9 m9 => Yk rfl <| Qd (v := (agg u8 (Zu ((Zp S k).t) [2#8]))) (Zg rfl rfl) <| Qd (v := (agg u8 (Zu ((Zp S k).t) [1#8]))) (Zg rfl rfl) <| Qd (Qm rfl) <| Qd (Zd (r := 130) X6 rfl Yy Zi rfl rfl) <| Vq m9 (Dp 6 (sE ((Zp S k).r) ((Zp S k).w) ((Zp S k).o) ((Zp S k).sb) ((Zp S k).tb) ((Zp S k).s) (Zu ((Zp S k).t) [2#8]) ((Zp S k).n1) ((Zp S k).n2) ((Zp S k).n3) vj) Q9 Zi rfl rfl m9.h1 rfl) fun w11 m11 => Qd (Zd (r := 33) Qe4 rfl Yy Zi rfl rfl) <| Yb m11 (Dp 2 (sK ((Zp S k).o) ((Zp S k).n2) (Zu ((Zp S k).t) [1#8])) Q9 Zi rfl rfl m11.h0 rfl) fun w12 m12 => rN <| Ju Xh ?_
   have m13 := (Mem.pick [_] [_] _ m12)
   have m14 := (Mem.pick [_] [_] _ m13)
   have m15 := (Mem.pick [_, _] Hj _ m14)
   have hFM16 : Mem w12 R ((Hj ++ ([])) ++ [(b5, .cells (Qp (sK ((Zp S k).o) ((Zp S k).n2) (Zu ((Zp S k).t) [1#8]))) 69 (0, 0)), (bs, .cells (Qp (sE ((Zp S k).r) ((Zp S k).w) ((Zp S k).o) ((Zp S k).sb) ((Zp S k).tb) ((Zp S k).s) (Zu ((Zp S k).t) [2#8]) ((Zp S k).n1) ((Zp S k).n2) ((Zp S k).n3) vj)) 26 (0, 0))]) := ymA m15
   obtain ⟨RM16, hRM16⟩ : ∃ R2, R2 = Rest.add R [(b5, .cells (Qp (sK ((Zp S k).o) ((Zp S k).n2) (Zu ((Zp S k).t) [1#8]))) 69 (0, 0)), (bs, .cells (Qp (sE ((Zp S k).r) ((Zp S k).w) ((Zp S k).o) ((Zp S k).sb) ((Zp S k).tb) ((Zp S k).s) (Zu ((Zp S k).t) [2#8]) ((Zp S k).n1) ((Zp S k).n2) ((Zp S k).n3) vj)) 26 (0, 0))] := ⟨_, rfl⟩
   have M160 : Mem w12 RM16 (Hj ++ ([])) := by rw [hRM16]; exact Mem.give hFM16
   have ho17 : RM16.blk b5 = some (.cells (Qp (sK ((Zp S k).o) ((Zp S k).n2) (Zu ((Zp S k).t) [1#8]))) 69 (0, 0)) := by rw [hRM16]; exact Mem.addOwn hFM16 (List.Mem.head _)
   have ho18 : RM16.blk bs = some (.cells (Qp (sE ((Zp S k).r) ((Zp S k).w) ((Zp S k).o) ((Zp S k).sb) ((Zp S k).tb) ((Zp S k).s) (Zu ((Zp S k).t) [2#8]) ((Zp S k).n1) ((Zp S k).n2) ((Zp S k).n3) vj)) 26 (0, 0)) := by rw [hRM16]; exact Mem.addOwn hFM16 (List.Mem.tail _ (List.Mem.head _))
   have hT19 : Tabs RM16.blk := by rw [hRM16]; exact Tabs.mono hT fun b o e => Mem.addRest hFM16 e
   refine Ea M160 [(0, false), (1, false), (2, false), (3, false), (4, false), (5, false), (6, true), (7, true)] 8 rfl Xh <| L9 rfl (Ye s0) <| L9 rfl (Ye s0) <| L9 rfl (Qm rfl) <| L9 rfl (Zd (r := 165) X6 rfl Yy Ah rfl rfl) <| yqH rfl (fun w _H _hx => Yp 10 Gt rfl (_hx.rest _ _ ho18) rfl) <| yqH rfl (fun w _H _hx => Jt Qe4 Np rfl (_hx.rest _ _ ho17)) ?_
   refine Qf7 rfl rfl (fun w20 e20 => ?_)
   have m20 := M160.ext e20
   refine J8.mono (Pj (cs := (Qp (sK ((Zp S k).o) ((Zp S k).n2) (Zu ((Zp S k).t) [1#8])))) m20 Gt Np rfl rfl rfl (by rw [Gh]; first | (simp; done) | (simp; omega))) ?_
   rintro _ w21 ⟨b54, rfl, e21, m21⟩
   have m21 : Mem w21 RM16 ([(b54, .cells (Qp (sK ((Zp S k).o) ((Zp S k).n2) (Zu ((Zp S k).t) [1#8]))) 69 (0, 0))] ++ (Hj ++ ([]))) := m21
   refine ⟨⟨_, m21⟩, ?_⟩
   refine Qf7 rfl rfl (fun w22 e22 => ?_)
   have m22 := m21.ext e22
   refine J8.mono (Qbp (enc := Yz) (k := 65) (Hs := Hj) (H := [_]) (Mem.pick [_] Hj _ m22) gj rfl rfl (RdK.ofOne (enc := Yz) (k := 65) (a := (Kp.mk ((Zp S k).o) ((Zp S k).n2) (Zu ((Zp S k).t) [1#8]) sD sD)) m22.h0 rfl (Qhl _)) Gt Gt Np rfl rfl (fun a _ => Qdn a) sL sL) ?_
   rintro sv23 w23 ⟨Hs23, m23, g23⟩
   replace g23 : Yf Yz 65 69 sv23 (((Zp S k).ks) ++ ([(Kp.mk ((Zp S k).o) ((Zp S k).n2) (Zu ((Zp S k).t) [1#8]) sD sD)])) Hs23 := g23
   refine ⟨⟨_, m23⟩, ?_⟩
   refine Ug m23 fun w24 m24 => ?_
   have hX25 := m24
   rw [hRM16] at hX25
   have m26 : Mem w24 R (Hs23 ++ ([(b54, .cells (Qp (sK ((Zp S k).o) ((Zp S k).n2) (Zu ((Zp S k).t) [1#8]))) 69 (0, 0)), (b5, .cells (Qp (sK ((Zp S k).o) ((Zp S k).n2) (Zu ((Zp S k).t) [1#8]))) 69 (0, 0)), (bs, .cells (Qp (sE ((Zp S k).r) ((Zp S k).w) ((Zp S k).o) ((Zp S k).sb) ((Zp S k).tb) ((Zp S k).s) (Zu ((Zp S k).t) [2#8]) ((Zp S k).n1) ((Zp S k).n2) ((Zp S k).n3) vj)) 26 (0, 0))])) := ymA (Mem.back hFM16 hX25)
   refine Qd (Qm rfl) <| Qd (Zd (r := 165) X6 rfl Yy Ah rfl rfl) <| Ve (Dn 10 (sE ((Zp S k).r) ((Zp S k).w) ((Zp S k).o) ((Zp S k).sb) ((Zp S k).tb) ((Zp S k).s) (Zu ((Zp S k).t) [2#8]) ((Zp S k).n1) ((Zp S k).n2) ((Zp S k).n3) sv23) Ah rfl rfl g23.one ((Mem.pick2 Hs23 [_, _] [_] _ m26)).h0 rfl rfl) ?_
   rintro _ w27 uq27
   have m27 : Mem _ _ ([_] ++ (Hs23 ++ ([_, _]))) := Mem.upd0 (Mem.pick2 Hs23 [_, _] [_] _ m26) uq27
   refine Zo (Qh (Qb ?_))
   refine Yk s0 <| Qd (Qm rfl) <| Qd (Zd (r := 163) X6 rfl Yy Dj rfl rfl) <| Qd (Yp 8 Di rfl m27.h0 rfl) <| Qd (Z9 (b := 1) rfl rfl oM oM) <| Qd (Qm rfl) <| Qd (Zd (r := 163) X6 rfl Yy Dj rfl rfl) <| Yb m27 (Dn 8 (sE ((Zp S k).r) ((Zp S k).w) ((Zp S k).o) ((Zp S k).sb) ((Zp S k).tb) ((Zp S k).s) (Zu ((Zp S k).t) [2#8]) ((Zp S k).n1) (((Zp S k).n2) + 1) ((Zp S k).n3) sv23) Dj rfl rfl (Jn _) m27.h0 rfl rfl) fun w28 m28 => rN ?_
   have m29 := Mem.drop [_] _ (Mem.pick2 [_] Hs23 [_] _ m28)
   have m30 := Mem.drop [_] _ (Mem.pick2 [_] Hs23 [_] _ m29)
   exact ⟨⟨(k + 1), sv23, Hs23, oM, (Yf.cast g23 (by first | rfl | simp [Zp, Sn.skip])), s0, s1, s4, s13, m30⟩, (by have hz1 : Qgb w28 bs 163 = (Zp S k).n2 + 1 := Qhm 8 m30.h0 rfl; show (to - Qgb _ bs 163).toNat < (to - Qgb _ bs 163).toNat; rw [hz0, hz1]; omega)⟩
  ·
   have hc4p := of_decide_eq_false hc4
   obtain rfl : k = (to - S.n2).toNat := by omega
   refine Yc ?_
   refine Qr (Qr (Xp ?_))
   refine Qc (sR ?_)
   refine Yk s0 <| Qd (Qm rfl) <| Qd (Zd (r := 165) X6 rfl Yy Ah rfl rfl) <| Qd (Yp 10 Gt rfl m3.h0 rfl) <| Qd (Ux (gj.rd (Mem.pick [_] Hj _ m3)) Gt rfl) <| Qd (Kw (b := 2000) rfl rfl oM oM) <| Zv (i64 ((((Zp S (to - S.n2).toNat).ks).length : Int) - 2000)) ?_
   refine rN (sR ?_)
   refine Zb (i64 ((((Zp S (to - S.n2).toNat).ks).length : Int) - 2000)) <| Qd (Cm (b := 0) rfl rfl) <| rN ?_
   refine Xb rfl (fun hc31 => ?_) (fun hc31 => ?_)
   ·
    have hc31p := of_decide_eq_true hc31
    refine Qb <| Yk s0 <| Yk s0 <| Qd (Qm rfl) <| Qd (Zd (r := 165) X6 rfl Yy Ah rfl rfl) <| Qd (Yp 10 Gt rfl m3.h0 rfl) <| Zb (i64 ((((Zp S (to - S.n2).toNat).ks).length : Int) - 2000)) ?_
    have hF33 : Mem w3 R ((Hj ++ ([])) ++ ([(bs, .cells (Qp (sS (Zp S (to - S.n2).toNat) vj)) 26 (0, 0))])) := by
     have hT := (Mem.pick [_] Hj _ m3)
     try simp only [List.append_assoc, List.cons_append, List.nil_append, List.append_nil] at hT ⊢
     exact hT
    refine G5 (oc52 (U2 rfl rfl rfl) (c_delK vj ((Zp S (to - S.n2).toNat).ks) Hj (0 : Int) ((((Zp S (to - S.n2).toNat).ks).length : Int) - 2000) _ _ (Mem.give hF33) gj (by refine ⟨?_, ?_, ?_⟩ <;> first | omega | (simp; omega)) sL)) ?_
    rintro rq34 w32 ⟨Hqq34, grq34, k_w32⟩
    have m32 : Mem w32 R (Hqq34 ++ ([(bs, .cells (Qp (sS (Zp S (to - S.n2).toNat) vj)) 26 (0, 0))])) := ymA (Mem.back hF33 k_w32)
    refine Qd (Qm rfl) <| Qd (Zd (r := 165) X6 rfl Yy Ah rfl rfl) <| Ve (Dn 10 (sS (Zp S (to - S.n2).toNat) rq34) Ah rfl rfl grq34.one ((Mem.pick Hqq34 [_] _ m32)).h0 rfl rfl) ?_
    rintro _ w35 uq35
    have m35 : Mem _ _ ([_] ++ (Hqq34 ++ ([]))) := Mem.upd0 (Mem.pick Hqq34 [_] _ m32) uq35
    refine rN (sR ?_)
    refine Zv (i64 0) ?_
    refine rN (Zy ?_)
    refine Qs [(i64 0)] ⟨rfl, trivial⟩ ?_
    have hfar : Pn S to = false := hc1
    have hlv : Xw S to = (Zp S (to - S.n2).toNat).trim ((Zp S (to - S.n2).toNat).ks.length - 2000) := by unfold Xw Qd0; rw [hfar]; rfl
    have hle : Wn S to = 0 := by unfold Wn; rw [hfar]; rfl
    rw [hlv, hle]
    exact ⟨rq34, Hqq34, rfl, Yf.cast grq34 ((trim_del (l := (Zp S (to - S.n2).toNat).ks) oM).trans (Qeo _ _)), (by rw [Qjh]; exact (by
     have hT := m35
     try simp only [List.append_assoc, List.cons_append, List.nil_append, List.append_nil] at hT ⊢
     exact hT))⟩
   ·
    have hc31p := of_decide_eq_false hc31
    refine Qo (Qa (sR ?_))
    refine Zv (i64 0) ?_
    refine rN (Zy ?_)
    refine Qs [(i64 0)] ⟨rfl, trivial⟩ ?_
    have hfar : Pn S to = false := hc1
    have hlv : Xw S to = (Zp S (to - S.n2).toNat).trim ((Zp S (to - S.n2).toNat).ks.length - 2000) := by unfold Xw Qd0; rw [hfar]; rfl
    have hle : Wn S to = 0 := by unfold Wn; rw [hfar]; rfl
    rw [hlv, hle]
    exact ⟨vj, Hj, rfl, Yf.cast gj ((trim_no (l := (Zp S (to - S.n2).toNat).ks) oM).trans (Qeo _ _)), (by rw [Qjh]; exact (by
     have hT := m3
     try simp only [List.append_assoc, List.cons_append, List.nil_append, List.append_nil] at hT ⊢
     exact hT))⟩
end Go.Proofs.YtkmiemlpfkfiiaaDoor
