/- The ratchet: searches; keys that are left out. Conditions: none beyond those that each theorem states. -/
import Derived.Test.YtkmiemlpfkfiiaaDoorRb2
namespace Go.Proofs.YtkmiemlpfkfiiaaDoor
open Tryd
set_option linter.unusedVariables false
set_option linter.unusedSimpArgs false
def Qck (c : Z8) (n : Int) (a : Kp) : Bool := a.c == c && a.n == n
def V9 (l : List Kp) (c : Z8) (n : Int) : Int := match l.findIdx? (Qck c n) with | some i => i | none => -1
theorem Qld {l : List Kp} {c : Z8} {n : Int} (h : ∀ m, m < l.length → Qck c n (l.getD m Gu) = false) : V9 l c n = -1 := by
 have : l.findIdx? (Qck c n) = none := List.findIdx?_eq_none_iff.2 fun x hx => by
  obtain ⟨i, hi, rfl⟩ := List.getElem_of_mem hx
  have := h i hi
  rwa [List.getD_eq_getElem?_getD, List.getElem?_eq_getElem hi] at this
 unfold V9; rw [this]
theorem Qmf {l : List Kp} {c : Z8} {n : Int} {i : Nat} (hi : i < l.length) (h : ∀ m, m < i → Qck c n (l.getD m Gu) = false) (h1 : Qck c n (l.getD i Gu) = true) : V9 l c n = i := by
 have : l.findIdx? (Qck c n) = some i := by
  rw [List.findIdx?_eq_some_iff_getElem]
  refine ⟨hi, by rwa [List.getD_eq_getElem?_getD, List.getElem?_eq_getElem hi] at h1, fun j hj => ?_⟩
  have := h j hj
  rw [List.getD_eq_getElem?_getD, List.getElem?_eq_getElem oM] at this
  simpa using this
 unfold V9; rw [this]
theorem find_ge {l : List Kp} {c : Z8} {n : Int} : V9 l c n = -1 ∨ ∃ i : Nat, V9 l c n = i ∧ i < l.length := by
 cases e : l.findIdx? (Qck c n) with
 | none => left; unfold V9; rw [e]
 | some j => right; exact ⟨j, by unfold V9; rw [e], (List.findIdx?_eq_some_iff_getElem.1 e).1⟩
def Qcx (w : World) (b off : Nat) : Int := match w.heap[b]? with | some (.cells c _ _) => (match c[off]? with | some (.int _ n) => n | _ => 0) | _ => 0
theorem Qd5 {w : World} {b off : Nat} {E : TypeId} {fz : Nat × Nat} {L : List (List Value)} {n : Int} (i : Nat) (hb : w.heap[b]? = some (.cells (Qz L) E fz)) (hg : Qe0 L i = [i64 n]) (hi : Nat.blt i L.length = true := by rfl)
  (ho : Qat L i = off := by first | (simp only [Qat, Eb, List.length_map, List.length_cons, List.length_nil, List.length_replicate] <;> omega) | (simp [Qat, Eb] <;> omega)) : Qcx w b off = n := by
 obtain ⟨L1, L3, h1, h2, h3⟩ := cutS L i hi
 have hc : (Qz L)[off]? = some (i64 n) := by rw [h1, hg]; exact Qfi L1 L3 (i64 n) (h2.trans ho)
 unfold Qcx; rw [hb]; simp only [hc]; rfl
theorem Qo8 {l : List Kp} {c : Z8} {n : Int} {i : Nat} (h : ∀ j, j < i → Qck c n (l.getD j Gu) = false) (h1 : Qck c n (l.getD i Gu) = false) : ∀ j, j < i + 1 → Qck c n (l.getD j Gu) = false := by
 intro j hj
 rcases Nat.lt_or_ge j i with h2 | h2
 ·exact h j h2
 obtain rfl : j = i := by omega
 exact h1
theorem trim_del {l : List Kp} {n : Int} (h : n.toNat = l.length - 2000) : l.take (0 : Int).toNat ++ l.drop n.toNat = l.drop (l.length - 2000) := by
 rw [h, show (0 : Int).toNat = 0 from rfl, List.take_zero, List.nil_append]
theorem trim_no {l : List Kp} (h : l.length ≤ 2000) : l = l.drop (l.length - 2000) := by
 rw [show l.length - 2000 = 0 by omega, List.drop_zero]
theorem Qh9 (S : Sn) (k : Nat) : S.ks.drop k = (S.trim k).ks := rfl
theorem Qiq {S : Sn} {k : Nat} {v : Value} : sS (S.trim k) v = sS S v := rfl
attribute [local irreducible] Qee Pq Wn Dh Yc Jf Qaz Wh Vb Kz Xj Lc Ef Xr V5 Ac
set_option maxHeartbeats 2000000 in
theorem c_hitK (a : Kp) (bh : Nat) (hc : Z8) (hp hn : Int) (w0 : World)  (hbh : Y8 w0 bh = some (.cells (Qz (sH hc hp hn)) 53 (0, 0))) (hcl : hc.length = 32) : X0 prog 51 #[(Value.agg (Qz (sK a.c a.n a.k))), (ptr bh 0)] w0 (fun r w1 => r = (bl (Qck hc hn a)) ∧ Ext w0 w1) := by
 refine Qy (args := [(Value.agg (Qz (sK a.c a.n a.k))), (ptr bh 0)]) func51 rfl ntmps51 results51 rfl ?_
 have m0 : Mem w0 (Qr w0) [] := Mem.of_world w0
 have hac := a.hc; have hak := a.hk
 refine sR <| Y9 (Us (cs := (Qz (sK a.c a.n a.k))) m0 rfl) fun w1 b2 m1 => Zx (bl false) ?_
 refine rN (Qa ?_)
 rcases Bool.eq_false_or_eq_true (a.c == hc) with hb2 | hb2
 ·
  have hb2p := eq_of_beq hb2
  refine Qb <| Qd (Zi (r := 0) Qbk rfl Je Zg rfl rfl) <| Qd (Jk 0 Xl Zg rfl m1.h0 rfl) <| Qd (Zi (r := 0) Fj rfl Je Zg rfl rfl) <| Qd (Jk 0 Xl Zg rfl (m1.rest _ _ hbh) rfl) <| Qd (Tu (l := a.c) (m := hc) Xl Vs Yw eqGuardType23 rfl rfl ysF ysF) <| Zm (bl (a.c == hc)) <| Zj (s := 9) rfl rfl hb2 rfl (Zi (r := 32) Qbk rfl Je Ui rfl rfl) <| Zj (s := 9) rfl rfl hb2 rfl (Yi 1 Uu rfl m1.h0 rfl) <| Zj (s := 9) rfl rfl hb2 rfl (Zi (r := 33) Fj rfl Je Ui rfl rfl) <| Zj (s := 9) rfl rfl hb2 rfl (Yi 2 Uu rfl (m1.rest _ _ hbh) rfl) <| Zj (s := 9) rfl rfl hb2 rfl (Gq rfl rfl) ?_
  refine Qd (Jg rfl hb2 rfl) <| Zx (bl (a.n == hn)) ?_
  refine rN (Zz ?_)
  refine Qp [(bl (a.n == hn))] ⟨rfl, trivial⟩ ?_
  exact ⟨congrArg bl (by unfold Qck; rw [hb2]; exact (Bool.true_and _).symm), m1.toExt⟩
 ·
  have hb2p := ne_of_beq_false hb2
  refine Qb <| Qd (Zi (r := 0) Qbk rfl Je Zg rfl rfl) <| Qd (Jk 0 Xl Zg rfl m1.h0 rfl) <| Qd (Zi (r := 0) Fj rfl Je Zg rfl rfl) <| Qd (Jk 0 Xl Zg rfl (m1.rest _ _ hbh) rfl) <| Qd (Tu (l := a.c) (m := hc) Xl Vs Yw eqGuardType23 rfl rfl ysF ysF) <| Zm (bl (a.c == hc)) <| Yg (s := 9) rfl rfl hb2 rfl <| Yg (s := 9) rfl rfl hb2 rfl <| Yg (s := 9) rfl rfl hb2 rfl <| Yg (s := 9) rfl rfl hb2 rfl <| Yg (s := 9) rfl rfl hb2 rfl ?_
  refine Qd (Yz rfl hb2 rfl) <| Zx (bl false) ?_
  refine rN (Zz ?_)
  refine Qp [(bl false)] ⟨rfl, trivial⟩ ?_
  exact ⟨congrArg bl (by unfold Qck; rw [hb2]; rfl), m1.toExt⟩
set_option maxHeartbeats 2000000 in
theorem c_findK (v : Value) (l : List Kp) (bh : Nat) (hc : Z8) (hp hn : Int) (w0 : World)  (hr : RdK (Y8 w0) Y3 65 v l) (hl : l.length ≤ 1048576) (hbh : Y8 w0 bh = some (.cells (Qz (sH hc hp hn)) 53 (0, 0))) (hcl : hc.length = 32) : X0 prog 50 #[v, (Value.func (.func 51) #[] #[(ptr bh 0)])] w0 (fun r w1 => r = (i64 (V9 l hc hn)) ∧ Ext w0 w1) := by
 refine Qy (args := [v, (Value.func (.func 51) #[] #[(ptr bh 0)])]) func50 rfl ntmps50 results50 rfl ?_
 have m0 : Mem w0 (Qr w0) [] := Mem.of_world w0
 refine sR <| Zx (i64 0) ?_
 refine rN (Qa (sR ?_))
 refine Zm v <| Qd (Fp (RdK.ofRest hr m0) Wq rfl) <| Zm (i64 0) ?_
 refine rN (Qh ?_)
 refine Y1 (fun g wv => ∃ (i : Nat), (i ≤ l.length) ∧ (∀ j, j < i → Qck hc hn (l.getD j Gu) = false) ∧ g 0 = v ∧ g 1 = (Value.func (.func 51) #[] #[(ptr bh 0)]) ∧ g 7 = (i64 (l.length : Int)) ∧ g 8 = (i64 (i : Int)) ∧ Mem wv (Qr w0) []) (fun g wv => ((l.length : Int) - RowKit.intOf (g 8)).toNat) ?_ ?_
 ·exact ⟨0, (Nat.zero_le _), (fun j hj => absurd hj (Nat.not_lt_zero j)), rfl, rfl, rfl, rfl, m0⟩
 rintro fr1 w2 ⟨i, hi, hno, s0, s1, s7, s8, m2⟩
 have z8 := s8
 refine sR <| Qd (Xa s8 s7) ?_
 refine rN (Qa ?_)
 refine Zy rfl (fun hc3 => ?_) (fun hc3 => ?_)
 ·
  have hc3p := of_decide_eq_true hc3
  refine Qn (Qc (Qa (Qh (sR ?_))))
  refine Yb s8 <| Zx (i64 (i : Int)) ?_
  refine rN (sR ?_)
  refine Yb s1 <| Yb s0 <| Zm (i64 (i : Int)) <| Qd (Yn (i := (i : Int)) (RdK.ofRest hr m2) Wq Dj rfl rfl oM sL) <| Qd (v := (Value.agg (Qz (sK ((l.getD i Gu).c) ((l.getD i Gu).n) ((l.getD i Gu).k))))) (Eo (i := (i : Int)) (dflt := Gu) (cs := (Qz (sK ((l.getD i Gu).c) ((l.getD i Gu).n) ((l.getD i Gu).k)))) (RdK.ofRest hr m2) sL Qbk rfl Dj rfl rfl Jb (kp_a (l.getD i Gu))) <| U3 m2 (Qgs (f := 51) rfl func51 bd51 nm51 (Jv rfl) (c_hitK (l.getD i Gu) bh hc hp hn _ (m2.rest _ _ hbh) sL)) fun w4 m4 => rN ?_
  refine Zy rfl (fun hc6 => ?_) (fun hc6 => ?_)
  ·
   refine sR <| Zm (i64 (i : Int)) <| Zx (i64 (i : Int)) ?_
   refine rN (Zz ?_)
   refine Fe (Yv (Fe ?_))
   refine Qp [(i64 (i : Int))] ⟨rfl, trivial⟩ ?_
   exact ⟨congrArg i64 (Qmf oM hno hc6).symm, m4.toExt⟩
  ·
   refine Qn (Qe (Qb ?_))
   refine Qd (Zf (b := 1) s8 rfl oM oM) <| Zm (i64 ((i : Int) + 1)) <| rN ?_
   exact ⟨⟨(i + 1), oM, (Qo8 hno hc6), s0, s1, s7, rfl, m4⟩, Ue rfl z8 oM oM⟩
 ·
  have hc3p := of_decide_eq_false hc3
  refine X4 ?_
  refine Qj (Qj (Xi ?_))
  refine sR <| Zx (i64 (-1)) ?_
  refine rN (Zz ?_)
  refine Qp [(i64 (-1))] ⟨rfl, trivial⟩ ?_
  exact ⟨congrArg i64 (Qld (fun j hj => hno j oM)).symm, m2.toExt⟩
set_option maxHeartbeats 2000000 in
theorem Qq9 (bs : Nat) (S : Sn) (vk : Value) (Hk : List (Nat × Obj)) (to : Int) (w0 : World) (R : Rest) (m0 : Mem w0 R ([(bs, .cells (Qz (sS S vk)) 26 (0, 0))] ++ (Hk ++ ([])))) (hT : Tabs R.blk) (gk : Yx Y3 65 69 vk S.ks Hk) (hto : 0 ≤ to ∧ to ≤ 2147483647) (hn2 : 0 ≤ S.n2 ∧ S.n2 ≤ 2147483648) (hkl : S.ks.length ≤ 100000) : X0 prog 75 #[(ptr bs 0), (i64 to)] w0 (fun r w1 => ∃ vq Hq, r = i64 (G7 S to) ∧ Yx Y3 65 69 vq (Za S to).ks Hq ∧ Mem w1 R ([(bs, .cells (Qz (sS (Za S to) vq)) 26 (0, 0))] ++ Hq)) := by
 refine Qy (args := [(ptr bs 0), (i64 to)]) func75 rfl ntmps75 results75 rfl <| sR <| Zx (i64 0) ?_
 refine rN (Qa (sR ?_))
 refine Zm (i64 to) <| Zm (ptr bs 0) <| Qd (Zc rfl) <| Qd (Zi (r := 163) Xt rfl Je Ui rfl rfl) <| Qd (Yi 8 Uu rfl m0.h0 rfl) <| Qd (Yf rfl rfl oM oM) <| Qd (Vz (b := 1000) rfl rfl) <| rN ?_
 refine Zy rfl (fun hc1 => ?_) (fun hc1 => ?_)
 ·
  have hc1p := of_decide_eq_true hc1
  refine sR <| Zx (i64 12) ?_
  refine rN (Zz (Yv ?_))
  refine Qp [(i64 12)] ⟨rfl, trivial⟩ ?_
  have hfar : Qco S to = true := hc1
  have hlv : Za S to = S := by unfold Za; rw [hfar]; rfl
  have hle : G7 S to = 12 := by unfold G7; rw [hfar]; rfl
  rw [hlv, hle]
  exact ⟨vk, Hk, rfl, gk, (by
   have hT := m0
   try simp only [List.append_assoc, List.cons_append, List.nil_append, List.append_nil] at hT ⊢
   exact hT)⟩
 ·
  have hc1p := of_decide_eq_false hc1
  refine Qn (Qc (Qa (Qh ?_)))
  refine Y1 (fun g wv => ∃ (k : Nat) (vj : Value) (Hj : List (Nat × Obj)), (k ≤ (to - S.n2).toNat) ∧ (Yx Y3 65 69 vj (Zu S k).ks Hj) ∧ g 0 = (ptr bs 0) ∧ g 1 = (i64 to) ∧ g 4 = (i64 0) ∧ g 13 = (bl (decide (1000 < (to - S.n2)))) ∧ Mem wv R ([(bs, .cells (Qz (sS (Zu S k) vj)) 26 (0, 0))] ++ (Hj ++ ([])))) (fun g wv => (to - Qcx wv bs 163).toNat) ?_ ?_
  ·exact ⟨0, vk, Hk, (Nat.zero_le _), gk, rfl, rfl, rfl, rfl, m0⟩
  rintro fr2 w3 ⟨k, vj, Hj, hk, gj, s0, s1, s4, s13, m3⟩
  have hz0 : Qcx w3 bs 163 = (Zu S k).n2 := Qd5 8 m3.h0 rfl
  have hk2 := Qic S k
  have hkn := Qiv S k
  refine Qa (sR ?_)
  refine Yb s0 <| Qd (Zc rfl) <| Qd (Zi (r := 163) Xt rfl Je Ui rfl rfl) <| Qd (Yi 8 Uu rfl m3.h0 rfl) <| Yb s1 <| Qd (Xa rfl rfl) <| rN ?_
  refine Zy rfl (fun hc4 => ?_) (fun hc4 => ?_)
  ·
   have hc4p := of_decide_eq_true hc4
   refine Qn (Qc (Qa (Qh (Qa ?_))))
   refine Xg [(0, false), (1, false), (2, false), (3, false), (4, false), (5, false), (6, false), (7, false), (8, false), (9, true)] 10 Xo <| Uh rfl s0 <| X6 rfl (Zc rfl) <| X6 rfl (Zi (r := 64) Xt rfl Je Zg rfl rfl) <| Ym rfl (fun _ e' => Jk 2 Xl Zg rfl (m3.ext e').h0 rfl) <| Uh rfl s0 <| X6 rfl (Zc rfl) <| X6 rfl (Zi (r := 163) Xt rfl Je Ui rfl rfl) <| Ym rfl (fun _ e' => Yi 8 Uu rfl (m3.ext e').h0 rfl) <| X6 rfl (Wv (c := (Qz (sK ((Zu S k).o) ((Zu S k).n2) (List.replicate 32 0)))) (pl := [(0, 32), (32, 1), (33, 32)]) Dj Qbk Xo (Jq (i := 0) (v := (agg u8 ((Zu S k).o))) (cs := (cl u8 ((Zu S k).o))) rfl rfl (Jq (i := 1) (v := (i64 ((Zu S k).n2))) (cs := #[(i64 ((Zu S k).n2))]) rfl rfl Vq)) (Vy (L := (sK (List.replicate 32 0) 0 (List.replicate 32 0))) 0 (sK ((Zu S k).o) 0 (List.replicate 32 0)) rfl (Gj u8 _).symm rfl (Vy 1 (sK ((Zu S k).o) ((Zu S k).n2) (List.replicate 32 0)) rfl rfl rfl Bq))) ?_
   refine Bi rfl rfl (fun w5 e5 => ?_)
   have m5 := m3.ext e5
   refine Wu.mono (Jw m5 Dj) ?_
   rintro _ w6 ⟨b5, rfl, e6, m6⟩
   refine ⟨e6, ?_⟩
   refine Gf m6 fun w7 m7 => Vf (Ux [((Zu S k).o).map u8, [(i64 ((Zu S k).n2))], (List.replicate 32 0).map u8] Dj rfl rfl (Bc (n := 32) (m := 33) (k := 65) (by first | rfl | (rw [List.length_map]; first | omega | (simp; done) | (simp; omega))) (Bc (n := 1) (m := 32) (k := 33) rfl (Bc (n := 32) (m := 0) (k := 32) (by first | rfl | (rw [List.length_map]; first | omega | (simp; done) | (simp; omega))) Qe4 rfl) rfl) rfl) (Yl (Jj Qs _) (Yl (Xy (Zv _) Jz) (Yl (Jj Qs _) Uw))) m7.h0 rfl rfl) ?_
   rintro _ w8 uq8
   have m8 : Mem _ _ ([(b5, .cells (Qz (sK ((Zu S k).o) ((Zu S k).n2) (List.replicate 32 0))) 69 (0, 0)), _] ++ (Hj ++ ([]))) := m7.upd0 uq8
   refine rN (sR ?_)
   refine Yb s0 <| Yb s0 <| Qd (Zc rfl) <| Qd (Zi (r := 130) Xt rfl Je Zg rfl rfl) <| Qd (Jk 6 Xl Zg rfl m8.h1 rfl) <| U3 m8 (oc32 (Jv rfl) (Qpv _ _ (hT.mono fun b o e => (m8).rest b o e) sL)) fun w9 m9 => Yb rfl <| Qd (v := (agg u8 (Xj ((Zu S k).t) [2#8]))) (Zr rfl rfl) <| Qd (v := (agg u8 (Xj ((Zu S k).t) [1#8]))) (Zr rfl rfl) <| Qd (Zc rfl) <| Qd (Zi (r := 130) Xt rfl Je Zg rfl rfl) <| Vu m9 (Ug 6 (sE ((Zu S k).r) ((Zu S k).w) ((Zu S k).o) ((Zu S k).sb) ((Zu S k).tb) ((Zu S k).s) (Xj ((Zu S k).t) [2#8]) ((Zu S k).n1) ((Zu S k).n2) ((Zu S k).n3) vj) Qs Zg rfl rfl m9.h1 rfl) fun w11 m11 => Qd (Zi (r := 33) Qbk rfl Je Zg rfl rfl) <| Ye m11 (Ug 2 (sK ((Zu S k).o) ((Zu S k).n2) (Xj ((Zu S k).t) [1#8])) Qs Zg rfl rfl m11.h0 rfl) fun w12 m12 => rN <| J4 Xo ?_
   have m13 := (Mem.pick [_] [_] _ m12)
   have m14 := (Mem.pick [_] [_] _ m13)
   have m15 := (Mem.pick [_, _] Hj _ m14)
   have hFM16 : Mem w12 R ((Hj ++ ([])) ++ [(b5, .cells (Qz (sK ((Zu S k).o) ((Zu S k).n2) (Xj ((Zu S k).t) [1#8]))) 69 (0, 0)), (bs, .cells (Qz (sE ((Zu S k).r) ((Zu S k).w) ((Zu S k).o) ((Zu S k).sb) ((Zu S k).tb) ((Zu S k).s) (Xj ((Zu S k).t) [2#8]) ((Zu S k).n1) ((Zu S k).n2) ((Zu S k).n3) vj)) 26 (0, 0))]) := ymA m15
   obtain ⟨RM16, hRM16⟩ : ∃ R2, R2 = Rest.add R [(b5, .cells (Qz (sK ((Zu S k).o) ((Zu S k).n2) (Xj ((Zu S k).t) [1#8]))) 69 (0, 0)), (bs, .cells (Qz (sE ((Zu S k).r) ((Zu S k).w) ((Zu S k).o) ((Zu S k).sb) ((Zu S k).tb) ((Zu S k).s) (Xj ((Zu S k).t) [2#8]) ((Zu S k).n1) ((Zu S k).n2) ((Zu S k).n3) vj)) 26 (0, 0))] := ⟨_, rfl⟩
   have M160 : Mem w12 RM16 (Hj ++ ([])) := by rw [hRM16]; exact Mem.give hFM16
   have ho17 : RM16.blk b5 = some (.cells (Qz (sK ((Zu S k).o) ((Zu S k).n2) (Xj ((Zu S k).t) [1#8]))) 69 (0, 0)) := by rw [hRM16]; exact Mem.addOwn hFM16 (List.Mem.head _)
   have ho18 : RM16.blk bs = some (.cells (Qz (sE ((Zu S k).r) ((Zu S k).w) ((Zu S k).o) ((Zu S k).sb) ((Zu S k).tb) ((Zu S k).s) (Xj ((Zu S k).t) [2#8]) ((Zu S k).n1) ((Zu S k).n2) ((Zu S k).n3) vj)) 26 (0, 0)) := by rw [hRM16]; exact Mem.addOwn hFM16 (List.Mem.tail _ (List.Mem.head _))
   have hT19 : Tabs RM16.blk := by rw [hRM16]; exact Tabs.mono hT fun b o e => Mem.addRest hFM16 e
   refine Dv M160 [(0, false), (1, false), (2, false), (3, false), (4, false), (5, false), (6, true), (7, true)] 8 rfl Xo <| Ns rfl (Yh s0) <| Ns rfl (Yh s0) <| Ns rfl (Zc rfl) <| Ns rfl (Zi (r := 165) Xt rfl Je Ec rfl rfl) <| yqH rfl (fun w _H _hx => Yi 10 Wq rfl (_hx.rest _ _ ho18) rfl) <| yqH rfl (fun w _H _hx => J7 Qbk Dj rfl (_hx.rest _ _ ho17)) ?_
   refine Qe6 rfl rfl (fun w20 e20 => ?_)
   have m20 := M160.ext e20
   refine Wu.mono (Hu (cs := (Qz (sK ((Zu S k).o) ((Zu S k).n2) (Xj ((Zu S k).t) [1#8])))) m20 Wq Dj rfl rfl rfl (by rw [U5]; first | (simp; done) | (simp; omega))) ?_
   rintro _ w21 ⟨b54, rfl, e21, m21⟩
   have m21 : Mem w21 RM16 ([(b54, .cells (Qz (sK ((Zu S k).o) ((Zu S k).n2) (Xj ((Zu S k).t) [1#8]))) 69 (0, 0))] ++ (Hj ++ ([]))) := m21
   refine ⟨⟨_, m21⟩, ?_⟩
   refine Qe6 rfl rfl (fun w22 e22 => ?_)
   have m22 := m21.ext e22
   refine Wu.mono (C9 (enc := Y3) (k := 65) (Hs := Hj) (H := [_]) (Mem.pick [_] Hj _ m22) gj rfl rfl (RdK.ofOne (enc := Y3) (k := 65) (a := (Kp.mk ((Zu S k).o) ((Zu S k).n2) (Xj ((Zu S k).t) [1#8]) sD sD)) m22.h0 rfl (Qd3 _)) Wq Wq Dj rfl rfl (fun a _ => Nq a) sL sL) ?_
   rintro sv23 w23 ⟨Hs23, m23, g23⟩
   replace g23 : Yx Y3 65 69 sv23 (((Zu S k).ks) ++ ([(Kp.mk ((Zu S k).o) ((Zu S k).n2) (Xj ((Zu S k).t) [1#8]) sD sD)])) Hs23 := g23
   refine ⟨⟨_, m23⟩, ?_⟩
   refine Gf m23 fun w24 m24 => ?_
   have hX25 := m24
   rw [hRM16] at hX25
   have m26 : Mem w24 R (Hs23 ++ ([(b54, .cells (Qz (sK ((Zu S k).o) ((Zu S k).n2) (Xj ((Zu S k).t) [1#8]))) 69 (0, 0)), (b5, .cells (Qz (sK ((Zu S k).o) ((Zu S k).n2) (Xj ((Zu S k).t) [1#8]))) 69 (0, 0)), (bs, .cells (Qz (sE ((Zu S k).r) ((Zu S k).w) ((Zu S k).o) ((Zu S k).sb) ((Zu S k).tb) ((Zu S k).s) (Xj ((Zu S k).t) [2#8]) ((Zu S k).n1) ((Zu S k).n2) ((Zu S k).n3) vj)) 26 (0, 0))])) := ymA (Mem.back hFM16 hX25)
   refine Qd (Zc rfl) <| Qd (Zi (r := 165) Xt rfl Je Ec rfl rfl) <| Vf (G5 10 (sE ((Zu S k).r) ((Zu S k).w) ((Zu S k).o) ((Zu S k).sb) ((Zu S k).tb) ((Zu S k).s) (Xj ((Zu S k).t) [2#8]) ((Zu S k).n1) ((Zu S k).n2) ((Zu S k).n3) sv23) Ec rfl rfl g23.one ((Mem.pick2 Hs23 [_, _] [_] _ m26)).h0 rfl rfl) ?_
   rintro _ w27 uq27
   have m27 : Mem _ _ ([_] ++ (Hs23 ++ ([_, _]))) := Mem.upd0 (Mem.pick2 Hs23 [_, _] [_] _ m26) uq27
   refine Zp (Qe (Qb ?_))
   refine Yb s0 <| Qd (Zc rfl) <| Qd (Zi (r := 163) Xt rfl Je Ui rfl rfl) <| Qd (Yi 8 Uu rfl m27.h0 rfl) <| Qd (Zf (b := 1) rfl rfl oM oM) <| Qd (Zc rfl) <| Qd (Zi (r := 163) Xt rfl Je Ui rfl rfl) <| Ye m27 (G5 8 (sE ((Zu S k).r) ((Zu S k).w) ((Zu S k).o) ((Zu S k).sb) ((Zu S k).tb) ((Zu S k).s) (Xj ((Zu S k).t) [2#8]) ((Zu S k).n1) (((Zu S k).n2) + 1) ((Zu S k).n3) sv23) Ui rfl rfl (Zv _) m27.h0 rfl rfl) fun w28 m28 => rN ?_
   have m29 := Mem.drop [_] _ (Mem.pick2 [_] Hs23 [_] _ m28)
   have m30 := Mem.drop [_] _ (Mem.pick2 [_] Hs23 [_] _ m29)
   exact ⟨⟨(k + 1), sv23, Hs23, oM, (Yx.cast g23 (by first | rfl | simp [Zu, Sn.skip])), s0, s1, s4, s13, m30⟩, (by have hz1 : Qcx w28 bs 163 = (Zu S k).n2 + 1 := Qd5 8 m30.h0 rfl; show (to - Qcx _ bs 163).toNat < (to - Qcx _ bs 163).toNat; rw [hz0, hz1]; omega)⟩
  ·
   have hc4p := of_decide_eq_false hc4
   obtain rfl : k = (to - S.n2).toNat := by omega
   refine X4 ?_
   refine Qj (Qj (Xi ?_))
   refine Qa (sR ?_)
   refine Yb s0 <| Qd (Zc rfl) <| Qd (Zi (r := 165) Xt rfl Je Ec rfl rfl) <| Qd (Yi 10 Wq rfl m3.h0 rfl) <| Qd (Fp (gj.rd (Mem.pick [_] Hj _ m3)) Wq rfl) <| Qd (Yf (b := 2000) rfl rfl oM oM) <| Zx (i64 ((((Zu S (to - S.n2).toNat).ks).length : Int) - 2000)) ?_
   refine rN (sR ?_)
   refine Zm (i64 ((((Zu S (to - S.n2).toNat).ks).length : Int) - 2000)) <| Qd (Vz (b := 0) rfl rfl) <| rN ?_
   refine Zy rfl (fun hc31 => ?_) (fun hc31 => ?_)
   ·
    have hc31p := of_decide_eq_true hc31
    refine Qb <| Yb s0 <| Yb s0 <| Qd (Zc rfl) <| Qd (Zi (r := 165) Xt rfl Je Ec rfl rfl) <| Qd (Yi 10 Wq rfl m3.h0 rfl) <| Zm (i64 ((((Zu S (to - S.n2).toNat).ks).length : Int) - 2000)) ?_
    have hF33 : Mem w3 R ((Hj ++ ([])) ++ ([(bs, .cells (Qz (sS (Zu S (to - S.n2).toNat) vj)) 26 (0, 0))])) := by
     have hT := (Mem.pick [_] Hj _ m3)
     try simp only [List.append_assoc, List.cons_append, List.nil_append, List.append_nil] at hT ⊢
     exact hT
    refine Vw (oc52 (Ci rfl rfl rfl) (c_delK vj ((Zu S (to - S.n2).toNat).ks) Hj (0 : Int) ((((Zu S (to - S.n2).toNat).ks).length : Int) - 2000) _ _ (Mem.give hF33) gj (by refine ⟨?_, ?_, ?_⟩ <;> first | omega | (simp; omega)) sL)) ?_
    rintro rq34 w32 ⟨Hqq34, grq34, k_w32⟩
    have m32 : Mem w32 R (Hqq34 ++ ([(bs, .cells (Qz (sS (Zu S (to - S.n2).toNat) vj)) 26 (0, 0))])) := ymA (Mem.back hF33 k_w32)
    refine Qd (Zc rfl) <| Qd (Zi (r := 165) Xt rfl Je Ec rfl rfl) <| Vf (G5 10 (sS (Zu S (to - S.n2).toNat) rq34) Ec rfl rfl grq34.one ((Mem.pick Hqq34 [_] _ m32)).h0 rfl rfl) ?_
    rintro _ w35 uq35
    have m35 : Mem _ _ ([_] ++ (Hqq34 ++ ([]))) := Mem.upd0 (Mem.pick Hqq34 [_] _ m32) uq35
    refine rN (sR ?_)
    refine Zx (i64 0) ?_
    refine rN (Zz ?_)
    refine Qp [(i64 0)] ⟨rfl, trivial⟩ ?_
    have hfar : Qco S to = false := hc1
    have hlv : Za S to = (Zu S (to - S.n2).toNat).trim ((Zu S (to - S.n2).toNat).ks.length - 2000) := by unfold Za Qjc; rw [hfar]; rfl
    have hle : G7 S to = 0 := by unfold G7; rw [hfar]; rfl
    rw [hlv, hle]
    exact ⟨rq34, Hqq34, rfl, Yx.cast grq34 ((trim_del (l := (Zu S (to - S.n2).toNat).ks) oM).trans (Qh9 _ _)), (by rw [Qiq]; exact (by
     have hT := m35
     try simp only [List.append_assoc, List.cons_append, List.nil_append, List.append_nil] at hT ⊢
     exact hT))⟩
   ·
    have hc31p := of_decide_eq_false hc31
    refine Qn (Qc (sR ?_))
    refine Zx (i64 0) ?_
    refine rN (Zz ?_)
    refine Qp [(i64 0)] ⟨rfl, trivial⟩ ?_
    have hfar : Qco S to = false := hc1
    have hlv : Za S to = (Zu S (to - S.n2).toNat).trim ((Zu S (to - S.n2).toNat).ks.length - 2000) := by unfold Za Qjc; rw [hfar]; rfl
    have hle : G7 S to = 0 := by unfold G7; rw [hfar]; rfl
    rw [hlv, hle]
    exact ⟨vj, Hj, rfl, Yx.cast gj ((trim_no (l := (Zu S (to - S.n2).toNat).ks) oM).trans (Qh9 _ _)), (by rw [Qiq]; exact (by
     have hT := m3
     try simp only [List.append_assoc, List.cons_append, List.nil_append, List.append_nil] at hT ⊢
     exact hT))⟩
end Go.Proofs.YtkmiemlpfkfiiaaDoor
