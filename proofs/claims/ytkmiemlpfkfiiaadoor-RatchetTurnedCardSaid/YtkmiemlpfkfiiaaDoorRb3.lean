/- The ratchet: searches; keys that are left out. Conditions: none beyond those that each theorem states. -/
import Derived.Test.YtkmiemlpfkfiiaaDoorRb2
namespace Go.Proofs.YtkmiemlpfkfiiaaDoor
open List renaming append_assoc → aQ, append_nil → aZ, cons_append → aW, getD_eq_getElem?_getD → aI, getElem?_eq_getElem → dB, length_map → bH, nil_append → aX, replicate → aA
open Mem renaming addOwn → ae, of_world → aY, pick → aC, pick2 → aN
open Tryd
set_option linter.unusedVariables false
set_option linter.unusedSimpArgs false
def Qch (c : Z4) (n : Int) (a : Kp) : Bool := a.c == c && a.n == n
def V5 (l : List Kp) (c : Z4) (n : Int) : Int := match l.findIdx? (Qch c n) with | some i => i | none => -1
theorem Ql2 {l : List Kp} {c : Z4} {n : Int} (h : ∀ m, m < l.length → Qch c n (l.getD m Dz) = false) : V5 l c n = -1 := by
 have : l.findIdx? (Qch c n) = none := List.findIdx?_eq_none_iff.2 fun x hx => by
  obtain ⟨i, hi, rfl⟩ := List.getElem_of_mem hx
  have := h i hi
  rwa [aI, dB hi] at this
 unfold V5; rw [this]
theorem Qnh {l : List Kp} {c : Z4} {n : Int} {i : Nat} (hi : i < l.length) (h : ∀ m, m < i → Qch c n (l.getD m Dz) = false) (h1 : Qch c n (l.getD i Dz) = true) : V5 l c n = i := by
 have : l.findIdx? (Qch c n) = some i := by
  rw [List.findIdx?_eq_some_iff_getElem]
  refine ⟨hi, by rwa [aI, dB hi] at h1, fun j hj => ?_⟩
  have := h j hj
  rw [aI, dB oM] at this
  simpa using this
 unfold V5; rw [this]
theorem find_ge {l : List Kp} {c : Z4} {n : Int} : V5 l c n = -1 ∨ ∃ i : Nat, V5 l c n = i ∧ i < l.length := by
 cases e : l.findIdx? (Qch c n) with
 | none => left; unfold V5; rw [e]
 | some j => right; exact ⟨j, by unfold V5; rw [e], (List.findIdx?_eq_some_iff_getElem.1 e).1⟩
def Qcv (w : World) (b off : Nat) : Int := match w.heap[b]? with | some (.cells c _ _) => (match c[off]? with | some (.int _ n) => n | _ => 0) | _ => 0
theorem Qeb {w : World} {b off : Nat} {E : TypeId} {fz : Nat × Nat} {L : List (List Value)} {n : Int} (i : Nat) (hb : w.heap[b]? = some (.cells (Qy L) E fz)) (hg : Qe7 L i = [i64 n]) (hi : Nat.blt i L.length = true := by rfl)
  (ho : Qaq L i = off := by first | (simp only [Qaq, F6, List.length_map, List.length_cons, List.length_nil, List.length_replicate] <;> omega) | (simp [Qaq, F6] <;> omega)) : Qcv w b off = n := by
 obtain ⟨L1, L3, h1, h2, h3⟩ := cutS L i hi
 have hc : (Qy L)[off]? = some (i64 n) := by rw [h1, hg]; exact Qfw L1 L3 (i64 n) (h2.trans ho)
 unfold Qcv; rw [hb]; simp only [hc]; rfl
theorem Qqq {l : List Kp} {c : Z4} {n : Int} {i : Nat} (h : ∀ j, j < i → Qch c n (l.getD j Dz) = false) (h1 : Qch c n (l.getD i Dz) = false) : ∀ j, j < i + 1 → Qch c n (l.getD j Dz) = false := by
 intro j hj
 rcases Nat.lt_or_ge j i with h2 | h2
 ·exact h j h2
 obtain rfl : j = i := by omega
 exact h1
theorem trim_del {l : List Kp} {n : Int} (h : n.toNat = l.length - 2000) : l.take (0 : Int).toNat ++ l.drop n.toNat = l.drop (l.length - 2000) := by
 rw [h, show (0 : Int).toNat = 0 from rfl, List.take_zero, aX]
theorem trim_no {l : List Kp} (h : l.length ≤ 2000) : l = l.drop (l.length - 2000) := by
 rw [show l.length - 2000 = 0 by omega, List.drop_zero]
theorem Qfm (S : Sn) (k : Nat) : S.ks.drop k = (S.trim k).ks := rfl
theorem Qjf {S : Sn} {k : Nat} {v : Value} : sS (S.trim k) v = sS S v := rfl
attribute [local irreducible] Si We Eg X8 Y7 Ba Wh Wv Kw Xc Gv Gn Zu Yy
set_option maxHeartbeats 2000000 in
theorem c_hitK (a : Kp) (bh : Nat) (hc : Z4) (hp hn : Int) (w0 : World)  (hbh : Jd w0 bh = some (.cells (Qy (sH hc hp hn)) 53 (0, 0))) (hcl : hc.length = 32) : Xz prog 51 #[(Value.agg (Qy (sK a.c a.n a.k))), (ptr bh 0)] w0 (fun r w1 => r = (bl (Qch hc hn a)) ∧ Ext w0 w1) := by
 refine Qz (args := [(Value.agg (Qy (sK a.c a.n a.k))), (ptr bh 0)]) func51 rfl ntmps51 results51 rfl ?_
 have m0 : Mem w0 (Qs w0) [] := aY w0
 have hac := a.hc; have hak := a.hk
 refine sR <| Y5 (Fz (cs := (Qy (sK a.c a.n a.k))) m0 rfl) fun w1 b2 m1 => Zx (bl false) ?_
 refine rN (Qa ?_)
 rcases Bool.eq_false_or_eq_true (a.c == hc) with hb2 | hb2
 ·
  have hb2p := eq_of_beq hb2
  refine Qb <| Qd (Zl (r := 0) Qez rfl Jj Zh rfl rfl) <| Qd (Jn 0 Xn Zh rfl m1.h0 rfl) <| Qd (Zl (r := 0) F8 rfl Jj Zh rfl rfl) <| Qd (Jn 0 Xn Zh rfl (m1.rest _ _ hbh) rfl) <| Qd (Qcl (l := a.c) (m := hc) Xn V3 Yr eqGuardType23 rfl rfl ysF ysF) <| Zm (bl (a.c == hc)) <| Yf (s := 9) rfl rfl hb2 rfl (Zl (r := 32) Qez rfl Jj Uw rfl rfl) <| Yf (s := 9) rfl rfl hb2 rfl (Y2 1 Fa rfl m1.h0 rfl) <| Yf (s := 9) rfl rfl hb2 rfl (Zl (r := 33) F8 rfl Jj Uw rfl rfl) <| Yf (s := 9) rfl rfl hb2 rfl (Y2 2 Fa rfl (m1.rest _ _ hbh) rfl) <| Yf (s := 9) rfl rfl hb2 rfl (G8 rfl rfl) ?_
  refine Qd (G6 rfl hb2 rfl) <| Zx (bl (a.n == hn)) ?_
  refine rN (Z8 ?_)
  refine Qq [(bl (a.n == hn))] ⟨rfl, trivial⟩ ?_
  exact ⟨congrArg bl (by unfold Qch; rw [hb2]; exact (Bool.true_and _).symm), m1.toExt⟩
 ·
  have hb2p := ne_of_beq_false hb2
  refine Qb <| Qd (Zl (r := 0) Qez rfl Jj Zh rfl rfl) <| Qd (Jn 0 Xn Zh rfl m1.h0 rfl) <| Qd (Zl (r := 0) F8 rfl Jj Zh rfl rfl) <| Qd (Jn 0 Xn Zh rfl (m1.rest _ _ hbh) rfl) <| Qd (Qcl (l := a.c) (m := hc) Xn V3 Yr eqGuardType23 rfl rfl ysF ysF) <| Zm (bl (a.c == hc)) <| Fe (s := 9) rfl rfl hb2 rfl <| Fe (s := 9) rfl rfl hb2 rfl <| Fe (s := 9) rfl rfl hb2 rfl <| Fe (s := 9) rfl rfl hb2 rfl <| Fe (s := 9) rfl rfl hb2 rfl ?_
  refine Qd (Wn rfl hb2 rfl) <| Zx (bl false) ?_
  refine rN (Z8 ?_)
  refine Qq [(bl false)] ⟨rfl, trivial⟩ ?_
  exact ⟨congrArg bl (by unfold Qch; rw [hb2]; rfl), m1.toExt⟩
set_option maxHeartbeats 2000000 in
theorem c_findK (v : Value) (l : List Kp) (bh : Nat) (hc : Z4) (hp hn : Int) (w0 : World)  (hr : RdK (Jd w0) Jl 65 v l) (hl : l.length ≤ 1048576) (hbh : Jd w0 bh = some (.cells (Qy (sH hc hp hn)) 53 (0, 0))) (hcl : hc.length = 32) : Xz prog 50 #[v, (Value.func (.func 51) #[] #[(ptr bh 0)])] w0 (fun r w1 => r = (i64 (V5 l hc hn)) ∧ Ext w0 w1) := by
 refine Qz (args := [v, (Value.func (.func 51) #[] #[(ptr bh 0)])]) func50 rfl ntmps50 results50 rfl ?_
 have m0 : Mem w0 (Qs w0) [] := aY w0
 refine sR <| Zx (i64 0) ?_
 refine rN (Qa (sR ?_))
 refine Zm v <| Qd (Bh (RdK.ofRest hr m0) Gi rfl) <| Zm (i64 0) ?_
 refine rN (Qh ?_)
 refine Y1 (fun g wv => ∃ (i : Nat), (i ≤ l.length) ∧ (∀ j, j < i → Qch hc hn (l.getD j Dz) = false) ∧ g 0 = v ∧ g 1 = (Value.func (.func 51) #[] #[(ptr bh 0)]) ∧ g 7 = (i64 (l.length : Int)) ∧ g 8 = (i64 (i : Int)) ∧ Mem wv (Qs w0) []) (fun g wv => ((l.length : Int) - RowKit.intOf (g 8)).toNat) ?_ ?_
 ·exact ⟨0, (Nat.zero_le _), (fun j hj => absurd hj (Nat.not_lt_zero j)), rfl, rfl, rfl, rfl, m0⟩
 rintro fr1 w2 ⟨i, hi, hno, s0, s1, s7, s8, m2⟩
 have z8 := s8
 refine sR <| Qd (Xd s8 s7) ?_
 refine rN (Qa ?_)
 refine Zz rfl (fun hc3 => ?_) (fun hc3 => ?_)
 ·
  have hc3p := of_decide_eq_true hc3
  refine Qo (Qc (Qa (Qh (sR ?_))))
  refine X9 s8 <| Zx (i64 (i : Int)) ?_
  refine rN (sR ?_)
  refine X9 s1 <| X9 s0 <| Zm (i64 (i : Int)) <| Qd (Y4 (i := (i : Int)) (RdK.ofRest hr m2) Gi Ac rfl rfl oM sL) <| Qd (v := (Value.agg (Qy (sK ((l.getD i Dz).c) ((l.getD i Dz).n) ((l.getD i Dz).k))))) (Ah (i := (i : Int)) (dflt := Dz) (cs := (Qy (sK ((l.getD i Dz).c) ((l.getD i Dz).n) ((l.getD i Dz).k)))) (RdK.ofRest hr m2) sL Qez rfl Ac rfl rfl Yx (kp_a (l.getD i Dz))) <| U5 m2 (Qhd (f := 51) rfl func51 bd51 nm51 (Jz rfl) (c_hitK (l.getD i Dz) bh hc hp hn _ (m2.rest _ _ hbh) sL)) fun w4 m4 => rN ?_
  refine Zz rfl (fun hc6 => ?_) (fun hc6 => ?_)
  ·
   refine sR <| Zm (i64 (i : Int)) <| Zx (i64 (i : Int)) ?_
   refine rN (Z8 ?_)
   refine H6 (Yz (H6 ?_))
   refine Qq [(i64 (i : Int))] ⟨rfl, trivial⟩ ?_
   exact ⟨congrArg i64 (Qnh oM hno hc6).symm, m4.toExt⟩
  ·
   refine Qo (Qe (Qb ?_))
   refine Qd (Zg (b := 1) s8 rfl oM oM) <| Zm (i64 ((i : Int) + 1)) <| rN ?_
   exact ⟨⟨(i + 1), oM, (Qqq hno hc6), s0, s1, s7, rfl, m4⟩, Uj rfl z8 oM oM⟩
 ·
  have hc3p := of_decide_eq_false hc3
  refine X3 ?_
  refine Qj (Qj (Xk ?_))
  refine sR <| Zx (i64 (-1)) ?_
  refine rN (Z8 ?_)
  refine Qq [(i64 (-1))] ⟨rfl, trivial⟩ ?_
  exact ⟨congrArg i64 (Ql2 (fun j hj => hno j oM)).symm, m2.toExt⟩
set_option maxHeartbeats 2000000 in
theorem Qs4 (bs : Nat) (S : Sn) (vk : Value) (Hk : List (Nat × Obj)) (to : Int) (w0 : World) (R : Rest) (m0 : Mem w0 R ([(bs, .cells (Qy (sS S vk)) 26 (0, 0))] ++ (Hk ++ ([])))) (hT : Tabs R.blk) (gk : Yu Jl 65 69 vk S.ks Hk) (hto : 0 ≤ to ∧ to ≤ 2147483647) (hn2 : 0 ≤ S.n2 ∧ S.n2 ≤ 2147483648) (hkl : S.ks.length ≤ 100000) : Xz prog 75 #[(ptr bs 0), (i64 to)] w0 (fun r w1 => ∃ vq Hq, r = i64 (G5 S to) ∧ Yu Jl 65 69 vq (Q9 S to).ks Hq ∧ Mem w1 R ([(bs, .cells (Qy (sS (Q9 S to) vq)) 26 (0, 0))] ++ Hq)) := by
 refine Qz (args := [(ptr bs 0), (i64 to)]) func75 rfl ntmps75 results75 rfl <| sR <| Zx (i64 0) ?_
 refine rN (Qa (sR ?_))
 refine Zm (i64 to) <| Zm (ptr bs 0) <| Qd (Zc rfl) <| Qd (Zl (r := 163) Yc rfl Jj Uw rfl rfl) <| Qd (Y2 8 Fa rfl m0.h0 rfl) <| Qd (Yg rfl rfl oM oM) <| Qd (G7 (b := 1000) rfl rfl) <| rN ?_
 refine Zz rfl (fun hc1 => ?_) (fun hc1 => ?_)
 ·
  have hc1p := of_decide_eq_true hc1
  refine sR <| Zx (i64 12) ?_
  refine rN (Z8 (Yz ?_))
  refine Qq [(i64 12)] ⟨rfl, trivial⟩ ?_
  have hfar : Qar S to = true := hc1
  have hlv : Q9 S to = S := by unfold Q9; rw [hfar]; rfl
  have hle : G5 S to = 12 := by unfold G5; rw [hfar]; rfl
  rw [hlv, hle]
  exact ⟨vk, Hk, rfl, gk, (by
   have hT := m0
   try simp only [aQ, aW, aX, aZ] at hT ⊢
   exact hT)⟩
 ·
  have hc1p := of_decide_eq_false hc1
  refine Qo (Qc (Qa (Qh ?_)))
  refine Y1 (fun g wv => ∃ (k : Nat) (vj : Value) (Hj : List (Nat × Obj)), (k ≤ (to - S.n2).toNat) ∧ (Yu Jl 65 69 vj (Zt S k).ks Hj) ∧ g 0 = (ptr bs 0) ∧ g 1 = (i64 to) ∧ g 4 = (i64 0) ∧ g 13 = (bl (decide (1000 < (to - S.n2)))) ∧ Mem wv R ([(bs, .cells (Qy (sS (Zt S k) vj)) 26 (0, 0))] ++ (Hj ++ ([])))) (fun g wv => (to - Qcv wv bs 163).toNat) ?_ ?_
  ·exact ⟨0, vk, Hk, (Nat.zero_le _), gk, rfl, rfl, rfl, rfl, m0⟩
  rintro fr2 w3 ⟨k, vj, Hj, hk, gj, s0, s1, s4, s13, m3⟩
  have hz0 : Qcv w3 bs 163 = (Zt S k).n2 := Qeb 8 m3.h0 rfl
  have hk2 := Qft S k
  have hkn := Qfu S k
  refine Qa (sR ?_)
  refine X9 s0 <| Qd (Zc rfl) <| Qd (Zl (r := 163) Yc rfl Jj Uw rfl rfl) <| Qd (Y2 8 Fa rfl m3.h0 rfl) <| X9 s1 <| Qd (Xd rfl rfl) <| rN ?_
  refine Zz rfl (fun hc4 => ?_) (fun hc4 => ?_)
  ·
   have hc4p := of_decide_eq_true hc4
   refine Qo (Qc (Qa (Qh (Qa ?_))))
   refine Xi [(0, false), (1, false), (2, false), (3, false), (4, false), (5, false), (6, false), (7, false), (8, false), (9, true)] 10 Xv <| Uh rfl s0 <| X4 rfl (Zc rfl) <| X4 rfl (Zl (r := 64) Yc rfl Jj Zh rfl rfl) <| Yj rfl (fun _ e' => Jn 2 Xn Zh rfl (m3.ext e').h0 rfl) <| Uh rfl s0 <| X4 rfl (Zc rfl) <| X4 rfl (Zl (r := 163) Yc rfl Jj Uw rfl rfl) <| Yj rfl (fun _ e' => Y2 8 Fa rfl (m3.ext e').h0 rfl) <| X4 rfl (Ws (c := (Qy (sK ((Zt S k).o) ((Zt S k).n2) (aA 32 0)))) (pl := [(0, 32), (32, 1), (33, 32)]) Ac Qez Xv (Jp (i := 0) (v := (agg u8 ((Zt S k).o))) (cs := (cl u8 ((Zt S k).o))) rfl rfl (Jp (i := 1) (v := (i64 ((Zt S k).n2))) (cs := #[(i64 ((Zt S k).n2))]) rfl rfl Vt)) (Vx (L := (sK (aA 32 0) 0 (aA 32 0))) 0 (sK ((Zt S k).o) 0 (aA 32 0)) rfl (Gg u8 _).symm rfl (Vx 1 (sK ((Zt S k).o) ((Zt S k).n2) (aA 32 0)) rfl rfl rfl Bg))) ?_
   refine C9 rfl rfl (fun w5 e5 => ?_)
   have m5 := m3.ext e5
   refine Vf.mono (Ju m5 Ac) ?_
   rintro _ w6 ⟨b5, rfl, e6, m6⟩
   refine ⟨e6, ?_⟩
   refine Gf m6 fun w7 m7 => Vd (Gy [((Zt S k).o).map u8, [(i64 ((Zt S k).n2))], (aA 32 0).map u8] Ac rfl rfl (Eh (n := 32) (m := 33) (k := 65) (by first | rfl | (rw [bH]; first | omega | (simp; done) | (simp; omega))) (Eh (n := 1) (m := 32) (k := 33) rfl (Eh (n := 32) (m := 0) (k := 32) (by first | rfl | (rw [bH]; first | omega | (simp; done) | (simp; omega))) Qdl rfl) rfl) rfl) (Ym (Jf Qr _) (Ym (X0 (Zw _) J6) (Ym (Jf Qr _) U6))) m7.h0 rfl rfl) ?_
   rintro _ w8 uq8
   have m8 : Mem _ _ ([(b5, .cells (Qy (sK ((Zt S k).o) ((Zt S k).n2) (aA 32 0))) 69 (0, 0)), _] ++ (Hj ++ ([]))) := m7.upd0 uq8
   refine rN (sR ?_)
   refine X9 s0 <| X9 s0 <| Qd (Zc rfl) <| Qd (Zl (r := 130) Yc rfl Jj Zh rfl rfl) <| Qd (Jn 6 Xn Zh rfl m8.h1 rfl) <| U5 m8 (oc32 (Jz rfl) (Qrj _ _ (hT.mono fun b o e => (m8).rest b o e) sL)) fun w9 m9 => X9 rfl <| Qd (v := (agg u8 (Xc ((Zt S k).t) [2#8]))) (Zr rfl rfl) <| Qd (v := (agg u8 (Xc ((Zt S k).t) [1#8]))) (Zr rfl rfl) <| Qd (Zc rfl) <| Qd (Zl (r := 130) Yc rfl Jj Zh rfl rfl) <| Vs m9 (Ue 6 (sE ((Zt S k).r) ((Zt S k).w) ((Zt S k).o) ((Zt S k).sb) ((Zt S k).tb) ((Zt S k).s) (Xc ((Zt S k).t) [2#8]) ((Zt S k).n1) ((Zt S k).n2) ((Zt S k).n3) vj) Qr Zh rfl rfl m9.h1 rfl) fun w11 m11 => Qd (Zl (r := 33) Qez rfl Jj Zh rfl rfl) <| Ye m11 (Ue 2 (sK ((Zt S k).o) ((Zt S k).n2) (Xc ((Zt S k).t) [1#8])) Qr Zh rfl rfl m11.h0 rfl) fun w12 m12 => rN <| Jy Xv ?_
   have m13 := (aC [_] [_] _ m12)
   have m14 := (aC [_] [_] _ m13)
   have m15 := (aC [_, _] Hj _ m14)
   have hFM16 : Mem w12 R ((Hj ++ ([])) ++ [(b5, .cells (Qy (sK ((Zt S k).o) ((Zt S k).n2) (Xc ((Zt S k).t) [1#8]))) 69 (0, 0)), (bs, .cells (Qy (sE ((Zt S k).r) ((Zt S k).w) ((Zt S k).o) ((Zt S k).sb) ((Zt S k).tb) ((Zt S k).s) (Xc ((Zt S k).t) [2#8]) ((Zt S k).n1) ((Zt S k).n2) ((Zt S k).n3) vj)) 26 (0, 0))]) := ymA m15
   obtain ⟨RM16, hRM16⟩ : ∃ R2, R2 = Rest.add R [(b5, .cells (Qy (sK ((Zt S k).o) ((Zt S k).n2) (Xc ((Zt S k).t) [1#8]))) 69 (0, 0)), (bs, .cells (Qy (sE ((Zt S k).r) ((Zt S k).w) ((Zt S k).o) ((Zt S k).sb) ((Zt S k).tb) ((Zt S k).s) (Xc ((Zt S k).t) [2#8]) ((Zt S k).n1) ((Zt S k).n2) ((Zt S k).n3) vj)) 26 (0, 0))] := ⟨_, rfl⟩
   have M160 : Mem w12 RM16 (Hj ++ ([])) := by rw [hRM16]; exact Mem.give hFM16
   have ho17 : RM16.blk b5 = some (.cells (Qy (sK ((Zt S k).o) ((Zt S k).n2) (Xc ((Zt S k).t) [1#8]))) 69 (0, 0)) := by rw [hRM16]; exact ae hFM16 (List.Mem.head _)
   have ho18 : RM16.blk bs = some (.cells (Qy (sE ((Zt S k).r) ((Zt S k).w) ((Zt S k).o) ((Zt S k).sb) ((Zt S k).tb) ((Zt S k).s) (Xc ((Zt S k).t) [2#8]) ((Zt S k).n1) ((Zt S k).n2) ((Zt S k).n3) vj)) 26 (0, 0)) := by rw [hRM16]; exact ae hFM16 (List.Mem.tail _ (List.Mem.head _))
   have hT19 : Tabs RM16.blk := by rw [hRM16]; exact Tabs.mono hT fun b o e => Mem.addRest hFM16 e
   refine Dk M160 [(0, false), (1, false), (2, false), (3, false), (4, false), (5, false), (6, true), (7, true)] 8 rfl Xv <| N8 rfl (Jb s0) <| N8 rfl (Jb s0) <| N8 rfl (Zc rfl) <| N8 rfl (Zl (r := 165) Yc rfl Jj Ar rfl rfl) <| yqH rfl (fun w _H _hx => Y2 10 Gi rfl (_hx.rest _ _ ho18) rfl) <| yqH rfl (fun w _H _hx => Ky Qez Ac rfl (_hx.rest _ _ ho17)) ?_
   refine Qfb rfl rfl (fun w20 e20 => ?_)
   have m20 := M160.ext e20
   refine Vf.mono (Ha (cs := (Qy (sK ((Zt S k).o) ((Zt S k).n2) (Xc ((Zt S k).t) [1#8])))) m20 Gi Ac rfl rfl rfl (by rw [U2]; first | (simp; done) | (simp; omega))) ?_
   rintro _ w21 ⟨b54, rfl, e21, m21⟩
   have m21 : Mem w21 RM16 ([(b54, .cells (Qy (sK ((Zt S k).o) ((Zt S k).n2) (Xc ((Zt S k).t) [1#8]))) 69 (0, 0))] ++ (Hj ++ ([]))) := m21
   refine ⟨⟨_, m21⟩, ?_⟩
   refine Qfb rfl rfl (fun w22 e22 => ?_)
   have m22 := m21.ext e22
   refine Vf.mono (Ae (enc := Jl) (k := 65) (Hs := Hj) (H := [_]) (aC [_] Hj _ m22) gj rfl rfl (RdK.ofOne (enc := Jl) (k := 65) (a := (Kp.mk ((Zt S k).o) ((Zt S k).n2) (Xc ((Zt S k).t) [1#8]) sD sD)) m22.h0 rfl (Qhm _)) Gi Gi Ac rfl rfl (fun a _ => Pz a) sL sL) ?_
   rintro sv23 w23 ⟨Hs23, m23, g23⟩
   replace g23 : Yu Jl 65 69 sv23 (((Zt S k).ks) ++ ([(Kp.mk ((Zt S k).o) ((Zt S k).n2) (Xc ((Zt S k).t) [1#8]) sD sD)])) Hs23 := g23
   refine ⟨⟨_, m23⟩, ?_⟩
   refine Gf m23 fun w24 m24 => ?_
   have hX25 := m24
   rw [hRM16] at hX25
   have m26 : Mem w24 R (Hs23 ++ ([(b54, .cells (Qy (sK ((Zt S k).o) ((Zt S k).n2) (Xc ((Zt S k).t) [1#8]))) 69 (0, 0)), (b5, .cells (Qy (sK ((Zt S k).o) ((Zt S k).n2) (Xc ((Zt S k).t) [1#8]))) 69 (0, 0)), (bs, .cells (Qy (sE ((Zt S k).r) ((Zt S k).w) ((Zt S k).o) ((Zt S k).sb) ((Zt S k).tb) ((Zt S k).s) (Xc ((Zt S k).t) [2#8]) ((Zt S k).n1) ((Zt S k).n2) ((Zt S k).n3) vj)) 26 (0, 0))])) := ymA (Mem.back hFM16 hX25)
   refine Qd (Zc rfl) <| Qd (Zl (r := 165) Yc rfl Jj Ar rfl rfl) <| Vd (Ud 10 (sE ((Zt S k).r) ((Zt S k).w) ((Zt S k).o) ((Zt S k).sb) ((Zt S k).tb) ((Zt S k).s) (Xc ((Zt S k).t) [2#8]) ((Zt S k).n1) ((Zt S k).n2) ((Zt S k).n3) sv23) Ar rfl rfl g23.one ((aN Hs23 [_, _] [_] _ m26)).h0 rfl rfl) ?_
   rintro _ w27 uq27
   have m27 : Mem _ _ ([_] ++ (Hs23 ++ ([_, _]))) := Mem.upd0 (aN Hs23 [_, _] [_] _ m26) uq27
   refine Zp (Qe (Qb ?_))
   refine X9 s0 <| Qd (Zc rfl) <| Qd (Zl (r := 163) Yc rfl Jj Uw rfl rfl) <| Qd (Y2 8 Fa rfl m27.h0 rfl) <| Qd (Zg (b := 1) rfl rfl oM oM) <| Qd (Zc rfl) <| Qd (Zl (r := 163) Yc rfl Jj Uw rfl rfl) <| Ye m27 (Ud 8 (sE ((Zt S k).r) ((Zt S k).w) ((Zt S k).o) ((Zt S k).sb) ((Zt S k).tb) ((Zt S k).s) (Xc ((Zt S k).t) [2#8]) ((Zt S k).n1) (((Zt S k).n2) + 1) ((Zt S k).n3) sv23) Uw rfl rfl (Zw _) m27.h0 rfl rfl) fun w28 m28 => rN ?_
   have m29 := Mem.drop [_] _ (aN [_] Hs23 [_] _ m28)
   have m30 := Mem.drop [_] _ (aN [_] Hs23 [_] _ m29)
   exact ⟨⟨(k + 1), sv23, Hs23, oM, (Yu.cast g23 (by first | rfl | simp [Zt, Sn.skip])), s0, s1, s4, s13, m30⟩, (by have hz1 : Qcv w28 bs 163 = (Zt S k).n2 + 1 := Qeb 8 m30.h0 rfl; show (to - Qcv _ bs 163).toNat < (to - Qcv _ bs 163).toNat; rw [hz0, hz1]; omega)⟩
  ·
   have hc4p := of_decide_eq_false hc4
   obtain rfl : k = (to - S.n2).toNat := by omega
   refine X3 ?_
   refine Qj (Qj (Xk ?_))
   refine Qa (sR ?_)
   refine X9 s0 <| Qd (Zc rfl) <| Qd (Zl (r := 165) Yc rfl Jj Ar rfl rfl) <| Qd (Y2 10 Gi rfl m3.h0 rfl) <| Qd (Bh (gj.rd (aC [_] Hj _ m3)) Gi rfl) <| Qd (Yg (b := 2000) rfl rfl oM oM) <| Zx (i64 ((((Zt S (to - S.n2).toNat).ks).length : Int) - 2000)) ?_
   refine rN (sR ?_)
   refine Zm (i64 ((((Zt S (to - S.n2).toNat).ks).length : Int) - 2000)) <| Qd (G7 (b := 0) rfl rfl) <| rN ?_
   refine Zz rfl (fun hc31 => ?_) (fun hc31 => ?_)
   ·
    have hc31p := of_decide_eq_true hc31
    refine Qb <| X9 s0 <| X9 s0 <| Qd (Zc rfl) <| Qd (Zl (r := 165) Yc rfl Jj Ar rfl rfl) <| Qd (Y2 10 Gi rfl m3.h0 rfl) <| Zm (i64 ((((Zt S (to - S.n2).toNat).ks).length : Int) - 2000)) ?_
    have hF33 : Mem w3 R ((Hj ++ ([])) ++ ([(bs, .cells (Qy (sS (Zt S (to - S.n2).toNat) vj)) 26 (0, 0))])) := by
     have hT := (aC [_] Hj _ m3)
     try simp only [aQ, aW, aX, aZ] at hT ⊢
     exact hT
    refine Vr (oc52 (Dy rfl rfl rfl) (c_delK vj ((Zt S (to - S.n2).toNat).ks) Hj (0 : Int) ((((Zt S (to - S.n2).toNat).ks).length : Int) - 2000) _ _ (Mem.give hF33) gj (by refine ⟨?_, ?_, ?_⟩ <;> first | omega | (simp; omega)) sL)) ?_
    rintro rq34 w32 ⟨Hqq34, grq34, k_w32⟩
    have m32 : Mem w32 R (Hqq34 ++ ([(bs, .cells (Qy (sS (Zt S (to - S.n2).toNat) vj)) 26 (0, 0))])) := ymA (Mem.back hF33 k_w32)
    refine Qd (Zc rfl) <| Qd (Zl (r := 165) Yc rfl Jj Ar rfl rfl) <| Vd (Ud 10 (sS (Zt S (to - S.n2).toNat) rq34) Ar rfl rfl grq34.one ((aC Hqq34 [_] _ m32)).h0 rfl rfl) ?_
    rintro _ w35 uq35
    have m35 : Mem _ _ ([_] ++ (Hqq34 ++ ([]))) := Mem.upd0 (aC Hqq34 [_] _ m32) uq35
    refine rN (sR ?_)
    refine Zx (i64 0) ?_
    refine rN (Z8 ?_)
    refine Qq [(i64 0)] ⟨rfl, trivial⟩ ?_
    have hfar : Qar S to = false := hc1
    have hlv : Q9 S to = (Zt S (to - S.n2).toNat).trim ((Zt S (to - S.n2).toNat).ks.length - 2000) := by unfold Q9 Qga; rw [hfar]; rfl
    have hle : G5 S to = 0 := by unfold G5; rw [hfar]; rfl
    rw [hlv, hle]
    exact ⟨rq34, Hqq34, rfl, Yu.cast grq34 ((trim_del (l := (Zt S (to - S.n2).toNat).ks) oM).trans (Qfm _ _)), (by rw [Qjf]; exact (by
     have hT := m35
     try simp only [aQ, aW, aX, aZ] at hT ⊢
     exact hT))⟩
   ·
    have hc31p := of_decide_eq_false hc31
    refine Qo (Qc (sR ?_))
    refine Zx (i64 0) ?_
    refine rN (Z8 ?_)
    refine Qq [(i64 0)] ⟨rfl, trivial⟩ ?_
    have hfar : Qar S to = false := hc1
    have hlv : Q9 S to = (Zt S (to - S.n2).toNat).trim ((Zt S (to - S.n2).toNat).ks.length - 2000) := by unfold Q9 Qga; rw [hfar]; rfl
    have hle : G5 S to = 0 := by unfold G5; rw [hfar]; rfl
    rw [hlv, hle]
    exact ⟨vj, Hj, rfl, Yu.cast gj ((trim_no (l := (Zt S (to - S.n2).toNat).ks) oM).trans (Qfm _ _)), (by rw [Qjf]; exact (by
     have hT := m3
     try simp only [aQ, aW, aX, aZ] at hT ⊢
     exact hT))⟩
end Go.Proofs.YtkmiemlpfkfiiaaDoor
