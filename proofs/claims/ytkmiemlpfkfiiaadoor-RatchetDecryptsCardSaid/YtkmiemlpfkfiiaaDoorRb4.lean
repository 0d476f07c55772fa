/- The ratchet: a session is brought to a header. Conditions: none beyond those that each theorem states. -/
import Derived.Test.YtkmiemlpfkfiiaaDoorRb3
namespace Go.Proofs.YtkmiemlpfkfiiaaDoor
open Tryd
set_option linter.unusedVariables false
set_option linter.unusedSimpArgs false
theorem Qqs (b : Z8) : 0 ≤ Wn b := by unfold Wn; omega
def Sn.renew (S : Sn) (c f : Z8) : Sn :=
 ⟨Yc (Yc S.r (Xr S.w c)) (Xr f c), Ai f, Ai c, true, true, Jf (Yc S.r (Xr S.w c)) (Xr f c), Jf S.r (Xr S.w c), 0, 0, S.n1, S.ks, Dt _ _, Nk _, Nk _, Eh _ _, Eh _ _⟩
def Sn.take1 (S : Sn) : Sn := ⟨S.r, S.w, S.o, S.sb, S.tb, S.s, Xj S.t [2#8], S.n1, S.n2 + 1, S.n3, S.ks, S.hr, S.hw, S.ho, S.hs, V6 _ _⟩
structure Hd where
 c : Z8
 p : Int
 n : Int
 hc : c.length = 32
def Qe1 (S : Sn) (h : Hd) : Bool := h.c != S.o || !S.tb
def Qeb (S : Sn) (h : Hd) : Bool := Qe1 S h && (S.tb && Qco S h.p)
def Jp (S : Sn) (h : Hd) (f : Z8) : Sn := if Qe1 S h then (if S.tb then (Za S h.p).renew h.c f else S.renew h.c f) else S
def Pi (S : Sn) (h : Hd) (f : Z8) : Int := if Qeb S h then 12 else if h.n < (Jp S h f).n2 then 11 else if Qco (Jp S h f) h.n then 12 else 0
def Qcf (S : Sn) (h : Hd) (f : Z8) : Sn := if Qeb S h then S else if h.n < (Jp S h f).n2 then Jp S h f else if Qco (Jp S h f) h.n then Jp S h f else (Za (Jp S h f) h.n).take1
def Qbz (S : Sn) (h : Hd) (f : Z8) : Z8 := if Pi S h f = 0 then Xj (Za (Jp S h f) h.n).t [1#8] else List.replicate 32 0
theorem Qi7 (S : Sn) (h : Hd) (f : Z8) : (Qbz S h f).length = 32 := by unfold Qbz; split; exact V6 _ _; rfl
theorem Qi2 {S : Sn} {c f : Z8} {v : Value} (hc : c.length = 32) (hf : f.length = 32) : sS (S.renew c f) v = sE (Yc (Yc S.r (Xr S.w c)) (Xr f c)) f c true true (Jf (Yc S.r (Xr S.w c)) (Xr f c)) (Jf S.r (Xr S.w c)) 0 0 S.n1 v := by
 show sE _ (Ai f) (Ai c) _ _ _ _ _ _ _ _ = _; rw [Ry hc, Ry hf]; rfl
theorem trim_n2 (S : Sn) (k : Nat) : (S.trim k).n2 = S.n2 := rfl
theorem Qhn (S : Sn) (n : Int) : Za S n = S ∨ Za S n = Qjc S n := by unfold Za; split; exact .inl rfl; exact .inr rfl
theorem Qnt (S : Sn) (n : Int) (h0 : 0 ≤ S.n2) (hn : 0 ≤ n) (h : S.n2 ≤ 2147483648) (h1 : n ≤ 2147483647) : 0 ≤ (Za S n).n2 ∧ (Za S n).n2 ≤ 2147483648 := by
 rcases Qhn S n with e | e <;> rw [e]
 ·exact ⟨h0, h⟩
 unfold Qjc; rw [trim_n2, Qic]; omega
theorem Qb2 (S : Sn) (n : Int) : (Za S n).ks.length ≤ S.ks.length + 2000 := by
 rcases Qhn S n with e | e <;> rw [e]
 ·omega
 unfold Qjc; rw [← Qh9, List.length_drop]; omega
theorem Qqn (S : Sn) (h : Hd) (f : Z8) (h0 : 0 ≤ S.n2 ∧ S.n2 ≤ 2147483648) : 0 ≤ (Jp S h f).n2 ∧ (Jp S h f).n2 ≤ 2147483648 := by
 unfold Jp; split
 ·split <;> exact ⟨Int.le_refl (0 : Int), (by show (0 : Int) ≤ 2147483648; decide)⟩
 exact h0
theorem Qi8 (S : Sn) (h : Hd) (f : Z8) : (Jp S h f).ks.length ≤ S.ks.length + 2000 := by
 unfold Jp; split
 ·split
  ·exact Qb2 S h.p
  show S.ks.length ≤ _; omega
 omega
theorem rchS_len (S : Sn) (h : Hd) (f : Z8) : (Qcf S h f).ks.length ≤ S.ks.length + 4000 := by
 have h1 := Qi8 S h f
 unfold Qcf; split
 ·omega
 split
 ·omega
 split
 ·omega
 have h2 := Qb2 (Jp S h f) h.n
 show (Za (Jp S h f) h.n).ks.length ≤ _
 omega
theorem rch0_a {S : Sn} {h : Hd} {f : Z8} (h1 : Qe1 S h = false) : Jp S h f = S := by unfold Jp; rw [h1]; rfl
theorem rch0_b {S : Sn} {h : Hd} {f : Z8} (h1 : Qe1 S h = true) (h2 : S.tb = false) : Jp S h f = S.renew h.c f := by unfold Jp; rw [h1, h2]; rfl
theorem rch0_c {S : Sn} {h : Hd} {f : Z8} (h1 : Qe1 S h = true) (h2 : S.tb = true) : Jp S h f = (Za S h.p).renew h.c f := by unfold Jp; rw [h1, h2]; rfl
theorem Qfx {S : Sn} {n : Int} (h : Qco S n = false) : G7 S n = 0 := by unfold G7; rw [h]; rfl
theorem Qk6 {S : Sn} {n : Int} (h : G7 S n = 0) : Qco S n = false := by
 cases e : Qco S n with
 | false => rfl
 | true => unfold G7 at h; rw [e] at h; exact absurd h Jb
theorem Qci {S : Sn} {n : Int} (h : G7 S n ≠ 0) : Qco S n = true := by
 cases e : Qco S n with
 | true => rfl
 | false => exact absurd (Qfx e) h
theorem Qdi {S : Sn} {n : Int} (h : Qco S n = true) : G7 S n = 12 := by unfold G7; rw [h]; rfl
theorem Qnu {S : Sn} {n : Int} (h : Qco S n = true) : Za S n = S := by unfold Za; rw [h]; rfl
def P7 (b : Z8) : Bool := decide (40 ≤ b.length) && (decide (Wn (b.drop 32) ≤ 2147483647) && decide (Wn (b.drop 36) ≤ 2147483647))
def Xe (b : Z8) : Hd := if P7 b then ⟨Ai (b.take 32), Wn (b.drop 32), Wn (b.drop 36), Nk _⟩ else ⟨List.replicate 32 0, 0, 0, rfl⟩
def hdR (b : Z8) : Z8 := if P7 b then b.drop 40 else []
def hdE (b : Z8) : Int := if P7 b then 0 else 3
theorem Qqk {S : Sn} {h : Hd} {f : Z8} (h1 : Qeb S h = true) : Pi S h f = 12 ∧ Qcf S h f = S ∧ Qbz S h f = List.replicate 32 0 := by
 have e : Pi S h f = 12 := by unfold Pi; rw [h1]; rfl
 exact ⟨e, by unfold Qcf; rw [h1]; rfl, by unfold Qbz; rw [e]; rfl⟩
theorem Qql {S : Sn} {h : Hd} {f : Z8} (h1 : Qeb S h = false) (h2 : h.n < (Jp S h f).n2) : Pi S h f = 11 ∧ Qcf S h f = Jp S h f ∧ Qbz S h f = List.replicate 32 0 := by
 have e : Pi S h f = 11 := by unfold Pi; rw [h1, if_pos h2]; rfl
 exact ⟨e, by unfold Qcf; rw [h1, if_pos h2]; rfl, by unfold Qbz; rw [e]; rfl⟩
theorem Qqm {S : Sn} {h : Hd} {f : Z8} (h1 : Qeb S h = false) (h2 : ¬ h.n < (Jp S h f).n2) (h3 : G7 (Jp S h f) h.n ≠ 0) : Pi S h f = G7 (Jp S h f) h.n ∧ Qcf S h f = Za (Jp S h f) h.n ∧ Qbz S h f = List.replicate 32 0 := by
 have h4 := Qci h3
 have e : Pi S h f = 12 := by unfold Pi; rw [h1, if_neg h2, h4]; rfl
 exact ⟨e.trans (Qdi h4).symm, by rw [Qnu h4]; unfold Qcf; rw [h1, if_neg h2, h4]; rfl, by unfold Qbz; rw [e]; rfl⟩
theorem Qos {S : Sn} {h : Hd} {f : Z8} (h1 : Qeb S h = false) (h2 : ¬ h.n < (Jp S h f).n2) (h3 : G7 (Jp S h f) h.n = 0) : Pi S h f = 0 ∧ Qcf S h f = (Za (Jp S h f) h.n).take1 ∧ Qbz S h f = Xj (Za (Jp S h f) h.n).t [1#8] := by
 have h4 := Qk6 h3
 have e : Pi S h f = 0 := by unfold Pi; rw [h1, if_neg h2, h4]; rfl
 exact ⟨e, by unfold Qcf; rw [h1, if_neg h2, h4]; rfl, by unfold Qbz; rw [e]; rfl⟩
theorem too_a {S : Sn} {h : Hd} (h1 : Qe1 S h = false) : Qeb S h = false := by unfold Qeb; rw [h1]; rfl
theorem too_b {S : Sn} {h : Hd} (h1 : S.tb = false) : Qeb S h = false := by unfold Qeb; rw [h1]; exact Bool.and_false _
theorem too_c {S : Sn} {h : Hd} (h3 : G7 S h.p = 0) : Qeb S h = false := by unfold Qeb; rw [Qk6 h3]; simp
theorem too_t {S : Sn} {h : Hd} (h1 : Qe1 S h = true) (h2 : S.tb = true) (h3 : G7 S h.p ≠ 0) : Qeb S h = true := by unfold Qeb; rw [h1, h2, Qci h3]; rfl
attribute [local irreducible] Qee Pq Wn Dh Yc Jf Qaz Wh Vb Kz Xj Lc Ef Xr V5 Ac
set_option maxHeartbeats 2000000 in
theorem Qq7 (bs : Nat) (S : Sn) (vk : Value) (c f : Z8) (w0 : World) (R : Rest) (m0 : Mem w0 R [(bs, .cells (Qz (sS S vk)) 26 (0, 0))]) (hT : Tabs R.blk) (hcl : c.length = 32) (hfl : f.length = 32) : X0 prog 76 #[(ptr bs 0), (agg u8 c), (agg u8 f)] w0 (fun _ w1 => Mem w1 R [(bs, .cells (Qz (sS (S.renew c f) vk)) 26 (0, 0))]) := by
 refine Qy (args := [(ptr bs 0), (agg u8 c), (agg u8 f)]) func76 rfl ntmps76 results76 rfl ?_
 have hb0 := Dt S.r (Xr S.w c)
 have hb1 := Eh S.r (Xr S.w c)
 have hb2 := Dt (Yc S.r (Xr S.w c)) (Xr f c)
 have hb3 := Eh (Yc S.r (Xr S.w c)) (Xr f c)
 have hb4 := Ba S.w c
 have hb5 := Ba f c
 refine sR <| Y9 (Xc (f := u8) (l := c) m0 rfl) fun w1 b4 m1 => Y9 (Xc (f := u8) (l := f) m1 rfl) fun w2 b5 m2 => ?_
 refine rN (Qa ?_)
 refine J4 Xo <| Qby [(0, false), (1, false), (2, false), (3, false), (4, false), (5, false), (6, false), (7, false), (8, false), (9, false), (10, false), (11, false), (12, false), (13, false), (14, false), (15, false), (16, false), (17, false), (18, true)] 19 [1, 15] rfl Xo <| Gx rfl rfl rfl (fun _ _hx => Yh (v := (ptr bs 0)) rfl) <| db_f rfl rfl (fun _ => Yh (v := (ptr bs 0)) rfl) <| Gx rfl rfl rfl (fun _ _hx => Yh (v := (ptr bs 0)) rfl) <| Gx rfl rfl rfl (fun _ _hx => Zc rfl) <| Gx rfl rfl rfl (fun _ _hx => Zi (r := 0) Xt rfl Je Zg rfl rfl) <| Gx rfl rfl rfl (fun _ _hx => Jk 0 Xl Zg rfl (m2.ext _hx).h2 rfl) <| Gx rfl rfl rfl (fun _ _hx => Yh (v := (ptr bs 0)) rfl) <| Gx rfl rfl rfl (fun _ _hx => Zc rfl) <| Gx rfl rfl rfl (fun _ _hx => Zi (r := 32) Xt rfl Je Zg rfl rfl) <| Gx rfl rfl rfl (fun _ _hx => Jk 1 Xl Zg rfl (m2.ext _hx).h2 rfl) ?_
 refine Gx rfl rfl rfl (fun _ _hx => Qo Xl rfl Zg rfl (m2.ext _hx).h1 Sv) <| Qg5 (v := (agg u8 (Xr S.w c))) rfl rfl rfl (fun w3 e3 => oc57 (Xm rfl rfl) (Qij _ _ _ sL sL)) <| Qg5 (v := (Value.tuple #[(agg u8 (Yc S.r (Xr S.w c))), (agg u8 (Jf S.r (Xr S.w c)))])) rfl rfl rfl (fun w6 e6 => oc40 (Xm rfl rfl) (Qjz _ _ _ (hT.mono fun b o e => ((m2.ext e6)).rest b o e) sL sL)) <| Gx rfl rfl rfl (fun _ _hx => Yh rfl) <| Gx rfl rfl rfl (fun _ _hx => Zr rfl rfl) <| db_f rfl rfl (fun _ => Zr rfl rfl) <| Gx rfl rfl rfl (fun _ _hx => Zc rfl) <| Gx rfl rfl rfl (fun _ _hx => Zi (r := 0) Xt rfl Je Zg rfl rfl) ?_
 refine db_n Xo rfl (fun w9 e9 => ?_)
 have m9 := m2.ext e9
 refine Wu.mono (Ug 0 (sE (Yc S.r (Xr S.w c)) S.w S.o S.sb S.tb S.s S.t S.n1 S.n2 S.n3 vk) Qs Zg rfl rfl m9.h2 rfl) ?_
 rintro _ w10 uq10
 have m10 := m9.upd2 uq10
 refine Qg6 (fun w11 e11 => ?_)
 have m11 := m10.ext e11
 refine Qd (Zc rfl) <| Qd (Zi (r := 130) Xt rfl Je Zg rfl rfl) <| Aa m11 (Ug 6 (sE (Yc S.r (Xr S.w c)) S.w S.o S.sb S.tb S.s (Jf S.r (Xr S.w c)) S.n1 S.n2 S.n3 vk) Qs Zg rfl rfl m11.h2 rfl) fun w12 m12 => ?_
 refine rN (Qa ?_)
 refine J4 Xo <| Qby [(0, false), (1, false), (2, false), (3, false), (4, false), (5, false), (6, false), (7, false), (8, false), (9, false), (10, false), (11, false), (12, false), (13, false), (14, false), (15, true)] 16 [1, 12] rfl Xo <| Gx rfl rfl rfl (fun _ _hx => Yh (v := (ptr bs 0)) rfl) <| db_f rfl rfl (fun _ => Yh (v := (ptr bs 0)) rfl) <| Gx rfl rfl rfl (fun _ _hx => Yh (v := (ptr bs 0)) rfl) <| Gx rfl rfl rfl (fun _ _hx => Zc rfl) <| Gx rfl rfl rfl (fun _ _hx => Zi (r := 0) Xt rfl Je Zg rfl rfl) <| Gx rfl rfl rfl (fun _ _hx => Jk 0 Xl Zg rfl (m12.ext _hx).h2 rfl) <| Gx rfl rfl rfl (fun _ _hx => Qo Xl rfl Zg rfl (m12.ext _hx).h0 Sv) <| Gx rfl rfl rfl (fun _ _hx => Qo Xl rfl Zg rfl (m12.ext _hx).h1 Sv) <| Qg5 (v := (agg u8 (Xr f c))) rfl rfl rfl (fun w13 e13 => oc57 (Xm rfl rfl) (Qij _ _ _ sL sL)) <| Qg5 (v := (Value.tuple #[(agg u8 (Yc (Yc S.r (Xr S.w c)) (Xr f c))), (agg u8 (Jf (Yc S.r (Xr S.w c)) (Xr f c)))])) rfl rfl rfl (fun w16 e16 => oc40 (Xm rfl rfl) (Qjz _ _ _ (hT.mono fun b o e => ((m12.ext e16)).rest b o e) sL sL)) ?_
 refine Gx rfl rfl rfl (fun _ _hx => Yh rfl) <| Gx rfl rfl rfl (fun _ _hx => Zr rfl rfl) <| db_f rfl rfl (fun _ => Zr rfl rfl) <| Gx rfl rfl rfl (fun _ _hx => Zc rfl) <| Gx rfl rfl rfl (fun _ _hx => Zi (r := 0) Xt rfl Je Zg rfl rfl) ?_
 refine db_n Xo rfl (fun w19 e19 => ?_)
 have m19 := m12.ext e19
 refine Wu.mono (Ug 0 (sE (Yc (Yc S.r (Xr S.w c)) (Xr f c)) S.w S.o S.sb S.tb S.s (Jf S.r (Xr S.w c)) S.n1 S.n2 S.n3 vk) Qs Zg rfl rfl m19.h2 rfl) ?_
 rintro _ w20 uq20
 have m20 := m19.upd2 uq20
 refine Qg6 (fun w21 e21 => ?_)
 have m21 := m20.ext e21
 refine Qd (Zc rfl) <| Qd (Zi (r := 98) Xt rfl Je Zg rfl rfl) <| Aa m21 (Ug 5 (sE (Yc (Yc S.r (Xr S.w c)) (Xr f c)) S.w S.o S.sb S.tb (Jf (Yc S.r (Xr S.w c)) (Xr f c)) (Jf S.r (Xr S.w c)) S.n1 S.n2 S.n3 vk) Qs Zg rfl rfl m21.h2 rfl) fun w22 m22 => ?_
 refine rN (Qa ?_)
 refine J4 Xo ?_
 have m23 := (Mem.pick [_] [_] _ m22)
 have m24 := (Mem.pick [_] [_] _ m23)
 have m25 := (Mem.pick [_, _] [_] _ m24)
 have hFM26 : Mem w22 R ([(bs, .cells (Qz (sE (Yc (Yc S.r (Xr S.w c)) (Xr f c)) S.w S.o S.sb S.tb (Jf (Yc S.r (Xr S.w c)) (Xr f c)) (Jf S.r (Xr S.w c)) S.n1 S.n2 S.n3 vk)) 26 (0, 0))] ++ [(b5, .cells (cl u8 f) 23 (0, 0)), (b4, .cells (cl u8 c) 23 (0, 0))]) := m25
 obtain ⟨RM26, hRM26⟩ : ∃ R2, R2 = Rest.add R [(b5, .cells (cl u8 f) 23 (0, 0)), (b4, .cells (cl u8 c) 23 (0, 0))] := ⟨_, rfl⟩
 have M260 : Mem w22 RM26 [(bs, .cells (Qz (sE (Yc (Yc S.r (Xr S.w c)) (Xr f c)) S.w S.o S.sb S.tb (Jf (Yc S.r (Xr S.w c)) (Xr f c)) (Jf S.r (Xr S.w c)) S.n1 S.n2 S.n3 vk)) 26 (0, 0))] := by rw [hRM26]; exact Mem.give hFM26
 have ho27 : RM26.blk b5 = some (.cells (cl u8 f) 23 (0, 0)) := by rw [hRM26]; exact Mem.addOwn hFM26 (List.Mem.head _)
 have ho28 : RM26.blk b4 = some (.cells (cl u8 c) 23 (0, 0)) := by rw [hRM26]; exact Mem.addOwn hFM26 (List.Mem.tail _ (List.Mem.head _))
 have hT29 : Tabs RM26.blk := by rw [hRM26]; exact Tabs.mono hT fun b o e => Mem.addRest hFM26 e
 refine Dv M260 [(0, false), (1, false), (2, false), (3, false), (4, false), (5, false), (6, false), (7, false), (8, true), (9, false), (10, false), (11, true), (12, false), (13, false), (14, true)] 15 rfl Xo <| Ns rfl (Yh (v := (ptr bs 0)) rfl) <| Ns rfl (Yh (v := (ptr bs 0)) rfl) <| Ns rfl (Yh (v := (ptr bs 0)) rfl) <| Ns rfl (Yh (v := (ptr bs 0)) rfl) <| yqH rfl (fun w _H _hx => Qo Xl rfl Zg rfl (_hx.rest _ _ ho27) Sv) <| yqH rfl (fun w _H _hx => Qo Xl rfl Zg rfl (_hx.rest _ _ ho28) Sv) <| Ns rfl (Zc rfl) <| Ns rfl (Zi (r := 32) Xt rfl Je Zg rfl rfl) ?_
 refine Qf8 rfl (fun w30 e30 => ?_)
 have m30 := M260.ext e30
 refine Wu.mono (Ug 1 (sE (Yc (Yc S.r (Xr S.w c)) (Xr f c)) f S.o S.sb S.tb (Jf (Yc S.r (Xr S.w c)) (Xr f c)) (Jf S.r (Xr S.w c)) S.n1 S.n2 S.n3 vk) Qs Zg rfl rfl m30.h0 rfl) ?_
 rintro _ w31 uq31
 have m31 := m30.upd0 uq31
 refine ⟨⟨_, m31⟩, ?_⟩
 refine Ns rfl (Zc rfl) <| Ns rfl (Zi (r := 64) Xt rfl Je Zg rfl rfl) ?_
 refine Qf8 rfl (fun w32 e32 => ?_)
 have m32 := m31.ext e32
 refine Wu.mono (Ug 2 (sE (Yc (Yc S.r (Xr S.w c)) (Xr f c)) f c S.sb S.tb (Jf (Yc S.r (Xr S.w c)) (Xr f c)) (Jf S.r (Xr S.w c)) S.n1 S.n2 S.n3 vk) Qs Zg rfl rfl m32.h0 rfl) ?_
 rintro _ w33 uq33
 have m33 := m32.upd0 uq33
 refine ⟨⟨_, m33⟩, ?_⟩
 refine Ns rfl (Zc rfl) <| Ns rfl (Zi (r := 96) Xt rfl Je ti4 rfl rfl) ?_
 refine Qf8 rfl (fun w34 e34 => ?_)
 have m34 := m33.ext e34
 refine Wu.mono (G5 3 (sE (Yc (Yc S.r (Xr S.w c)) (Xr f c)) f c true S.tb (Jf (Yc S.r (Xr S.w c)) (Xr f c)) (Jf S.r (Xr S.w c)) S.n1 S.n2 S.n3 vk) ti4 rfl rfl rfl m34.h0 rfl rfl) ?_
 rintro _ w35 uq35
 have m35 := m34.upd0 uq35
 refine ⟨⟨_, m35⟩, ?_⟩
 refine Gf m35 fun w36 m36 => ?_
 have hX37 := m36
 rw [hRM26] at hX37
 have m38 : Mem w36 R [(bs, .cells (Qz (sE (Yc (Yc S.r (Xr S.w c)) (Xr f c)) f c true S.tb (Jf (Yc S.r (Xr S.w c)) (Xr f c)) (Jf S.r (Xr S.w c)) S.n1 S.n2 S.n3 vk)) 26 (0, 0)), (b5, .cells (cl u8 f) 23 (0, 0)), (b4, .cells (cl u8 c) 23 (0, 0))] := ymA (Mem.back hFM26 hX37)
 refine Qd (Zc rfl) <| Qd (Zi (r := 97) Xt rfl Je ti4 rfl rfl) <| Ye m38 (G5 4 (sE (Yc (Yc S.r (Xr S.w c)) (Xr f c)) f c true true (Jf (Yc S.r (Xr S.w c)) (Xr f c)) (Jf S.r (Xr S.w c)) S.n1 S.n2 S.n3 vk) ti4 rfl rfl rfl m38.h0 rfl rfl) fun w39 m39 => ?_
 refine rN (Qb ?_)
 refine Zm (ptr bs 0) <| Zm (ptr bs 0) <| Zm (ptr bs 0) <| Zm (ptr bs 0) <| Qd (Zc rfl) <| Qd (Zi (r := 162) Xt rfl Je Ui rfl rfl) <| Qd (Yi 7 Uu rfl m39.h0 rfl) <| Qd (Zc rfl) <| Qd (Zi (r := 164) Xt rfl Je Ui rfl rfl) <| Ye m39 (G5 9 (sE (Yc (Yc S.r (Xr S.w c)) (Xr f c)) f c true true (Jf (Yc S.r (Xr S.w c)) (Xr f c)) (Jf S.r (Xr S.w c)) S.n1 S.n2 S.n1 vk) Ui rfl rfl (Zv _) m39.h0 rfl rfl) fun w40 m40 => Qd (Zc rfl) <| Qd (Zi (r := 162) Xt rfl Je Ui rfl rfl) <| Ye m40 (G5 7 (sE (Yc (Yc S.r (Xr S.w c)) (Xr f c)) f c true true (Jf (Yc S.r (Xr S.w c)) (Xr f c)) (Jf S.r (Xr S.w c)) 0 S.n2 S.n1 vk) Ui rfl rfl (Zv _) m40.h0 rfl rfl) fun w41 m41 => Qd (Zc rfl) <| Qd (Zi (r := 163) Xt rfl Je Ui rfl rfl) <| Ye m41 (G5 8 (sE (Yc (Yc S.r (Xr S.w c)) (Xr f c)) f c true true (Jf (Yc S.r (Xr S.w c)) (Xr f c)) (Jf S.r (Xr S.w c)) 0 0 S.n1 vk) Ui rfl rfl (Zv _) m41.h0 rfl rfl) fun w42 m42 => Zp <| Ls [] trivial ?_
 have m43 := Mem.drop [_] _ (Mem.pick [_] [_] _ m42)
 have m44 := Mem.drop [_] _ (Mem.pick [_] [_] _ m43)
 rw [Qi2 hcl hfl]
 exact m44
set_option maxHeartbeats 2000000 in
theorem c_reach (bs : Nat) (S : Sn) (vk : Value) (Hk : List (Nat × Obj)) (h : Hd) (f : Z8) (w0 : World) (R : Rest) (m0 : Mem w0 R ([(bs, .cells (Qz (sS S vk)) 26 (0, 0))] ++ (Hk ++ ([])))) (hT : Tabs R.blk) (gk : Yx Y3 65 69 vk S.ks Hk) (hfl : f.length = 32) (hhp : 0 ≤ h.p ∧ h.p ≤ 2147483647) (hhn : 0 ≤ h.n ∧ h.n ≤ 2147483647) (hn2 : 0 ≤ S.n2 ∧ S.n2 ≤ 2147483647) (hkl : S.ks.length ≤ 10000) : X0 prog 53 #[(ptr bs 0), (Value.agg (Qz (sH h.c h.p h.n))), (agg u8 f)] w0 (fun r w1 => ∃ vq Hq, r = Value.tuple #[(agg u8 (Qbz S h f)), i64 (Pi S h f)] ∧ Yx Y3 65 69 vq (Qcf S h f).ks Hq ∧ Mem w1 R ([(bs, .cells (Qz (sS (Qcf S h f) vq)) 26 (0, 0))] ++ Hq)) := by
 refine Qy (args := [(ptr bs 0), (Value.agg (Qz (sH h.c h.p h.n))), (agg u8 f)]) func53 rfl ntmps53 results53 rfl ?_
 have hhc := h.hc
 have h02 := Qqn S h f ⟨by omega, by omega⟩
 have h0l := Qi8 S h f
 have hll := Qb2 S h.p
 refine sR <| Y9 (Us (cs := (Qz (sH h.c h.p h.n))) m0 rfl) fun w1 b4 m1 => Y9 (Xc (f := u8) (l := f) m1 rfl) fun w2 b5 m2 => Y9 (Q7 m2 Zg) fun w3 b6 m3 => Zx (i64 0) ?_
 refine rN (Qa (Qa ?_))
 refine H5 (J := fun g wv => g 0 = (ptr bs 0) ∧ g 1 = (Value.agg (Qz (sH h.c h.p h.n))) ∧ g 2 = (agg u8 f) ∧ g 4 = (ptr b4 0) ∧ g 5 = (ptr b5 0) ∧ g 6 = (ptr b6 0) ∧ g 7 = (i64 0) ∧ g 21 = (bl (Qe1 S h)) ∧ Mem wv R ([(b6, .cells (cl u8 (List.replicate 32 0)) 23 (0, 0)), (b5, .cells (cl u8 f) 23 (0, 0)), (b4, .cells (Qz (sH h.c h.p h.n)) 53 (0, 0)), (bs, .cells (Qz (sS S vk)) 26 (0, 0))] ++ (Hk ++ ([])))) ?_ ?_
 ·skip
  refine Xg (dl 6) 6 Xo <| X6 rfl (Zi (r := 0) Fj rfl Je Zg rfl rfl) <| Ym rfl (fun _ e' => Jk 0 Xl Zg rfl (m3.ext e').h2 rfl) <| J8 rfl (ptr bs 0) <| X6 rfl (Zc rfl) <| X6 rfl (Zi (r := 64) Xt rfl Je Zg rfl rfl) <| Ym rfl (fun _ e' => Jk 2 Xl Zg rfl (m3.ext e').h3 rfl) <| Gf m3 fun w4 m4 => Qd (G8 (l := h.c) (m := S.o) Xl Vs Yw eqGuardType23 rfl rfl ysF ysF) <| Zm (bl (h.c != S.o)) ?_
  rcases Bool.eq_false_or_eq_true (h.c != S.o) with hb5 | hb5
  ·
   have hb5p := bne_iff_ne.1 hb5
   refine Yg (s := 15) rfl rfl hb5 rfl <| Yg (s := 15) rfl rfl hb5 rfl <| Yg (s := 15) rfl rfl hb5 rfl <| Yg (s := 15) rfl rfl hb5 rfl <| Yg (s := 15) rfl rfl hb5 rfl <| Qd (Jg rfl hb5 rfl) <| rN ?_
   exact ⟨rfl, rfl, rfl, rfl, rfl, rfl, rfl, (Eq.trans rfl (congrArg bl (by unfold Qe1; rw [hb5]; rfl))), m4⟩
  ·
   have hb5p := X3 hb5
   refine Zj (s := 15) rfl rfl hb5 rfl (Yh (v := (ptr bs 0)) rfl) <| Zj (s := 15) rfl rfl hb5 rfl (Zc rfl) <| Zj (s := 15) rfl rfl hb5 rfl (Zi (r := 97) Xt rfl Je ti4 rfl rfl) <| Zj (s := 15) rfl rfl hb5 rfl (Yi 4 uT4 rfl m4.h3 rfl) <| Zj (s := 15) rfl rfl hb5 rfl (Gw rfl) <| Qd (Yz rfl hb5 rfl) <| rN ?_
   exact ⟨rfl, rfl, rfl, rfl, rfl, rfl, rfl, (Eq.trans rfl (congrArg bl (by unfold Qe1; rw [hb5]; rfl))), m4⟩
 rintro fr6 w7 ⟨s0, s1, s2, s4, s5, s6, s7, s21, m7⟩
 refine H5 (J := fun g wv => ∃ (vj : Value) (Hj : List (Nat × Obj)), (Yx Y3 65 69 vj (Jp S h f).ks Hj) ∧ (Qeb S h = false) ∧ g 0 = (ptr bs 0) ∧ g 1 = (Value.agg (Qz (sH h.c h.p h.n))) ∧ g 2 = (agg u8 f) ∧ g 4 = (ptr b4 0) ∧ g 5 = (ptr b5 0) ∧ g 6 = (ptr b6 0) ∧ g 7 = (i64 0) ∧ g 21 = (bl (Qe1 S h)) ∧ Mem wv R ([(bs, .cells (Qz (sS (Jp S h f) vj)) 26 (0, 0))] ++ (Hj ++ ([(b6, .cells (cl u8 (List.replicate 32 0)) 23 (0, 0)), (b5, .cells (cl u8 f) 23 (0, 0)), (b4, .cells (Qz (sH h.c h.p h.n)) 53 (0, 0))])))) ?_ ?_
 ·skip
  refine Zy s21 (fun hc8 => ?_) (fun hc8 => ?_)
  ·
   refine Qa (sR ?_)
   refine Yb s0 <| Qd (Zc rfl) <| Qd (Zi (r := 97) Xt rfl Je ti4 rfl rfl) <| Qd (Yi 4 uT4 rfl m7.h3 rfl) <| rN ?_
   refine Zy rfl (fun hc9 => ?_) (fun hc9 => ?_)
   ·
    refine Qb <| Yb s0 <| Qd (Zi (r := 32) Fj rfl Je Ui rfl s4) <| Qd (Yi 1 Uu rfl m7.h2 rfl) ?_
    have hF11 : Mem w7 R (([(bs, .cells (Qz (sS S vk)) 26 (0, 0))] ++ (Hk ++ ([]))) ++ ([(b6, .cells (cl u8 (List.replicate 32 0)) 23 (0, 0)), (b5, .cells (cl u8 f) 23 (0, 0)), (b4, .cells (Qz (sH h.c h.p h.n)) 53 (0, 0))])) := by
     have hT := (Mem.pick2 Hk [_, _, _] [_] _ (Mem.pick [_, _, _, _] Hk _ m7))
     try simp only [List.append_assoc, List.cons_append, List.nil_append, List.append_nil] at hT ⊢
     exact hT
    refine Vw (oc75 (Xm rfl rfl) (Qq9 bs S vk Hk h.p _ _ (Mem.give hF11) (hT.mono fun b o e => Mem.addRest hF11 e) gk sL sL sL)) ?_
    rintro _ w10 ⟨vqq12, Hqq12, rfl, gqq12, k_w10⟩
    have m10 : Mem w10 R ([(bs, .cells (Qz (sS (Za S h.p) vqq12)) 26 (0, 0))] ++ (Hqq12 ++ ([(b6, .cells (cl u8 (List.replicate 32 0)) 23 (0, 0)), (b5, .cells (cl u8 f) 23 (0, 0)), (b4, .cells (Qz (sH h.c h.p h.n)) 53 (0, 0))]))) := ymA (Mem.back hF11 k_w10)
    refine Zx (i64 (G7 S h.p)) ?_
    refine rN (Qa (sR ?_))
    refine Zm (i64 (G7 S h.p)) <| Qd (We (b := 0) rfl rfl) <| rN ?_
    refine Zy rfl (fun hc13 => ?_) (fun hc13 => ?_)
    ·
     have hc13p := bne_iff_ne.1 hc13
     refine sR <| Qd (Qo Xl rfl Zg s6 ((Mem.pick2 [_] Hqq12 [_] _ m10)).h0 Sv) <| Zm (i64 (G7 S h.p)) <| Vf (Qg (f := u8) (l := List.replicate 32 0) Qs Zg s6 rfl sL ((Mem.pick2 [_] Hqq12 [_] _ m10)).h0 Sv rfl) ?_
     rintro _ w14 uq14
     have m14 : Mem _ _ ([_, _] ++ (Hqq12 ++ ([_, _]))) := Mem.upd0 (Mem.pick2 [_] Hqq12 [_] _ m10) uq14
     refine Zx (i64 (G7 S h.p)) ?_
     refine rN (Zz ?_)
     refine Yv (Yv ?_)
     refine Qp [(agg u8 (List.replicate 32 0)), (i64 (G7 S h.p))] ⟨⟨_, s6, Xn Xl rfl Zg m14.h0 Sv⟩, rfl, trivial⟩ ?_
     have m15 := Mem.drop [_] _ m14
     have m16 := Mem.drop [_] _ (Mem.pick2 [_] Hqq12 [_] _ m15)
     have m17 := Mem.drop [_] _ (Mem.pick2 [_] Hqq12 [_] _ m16)
     obtain ⟨hr1, hr2, hr3⟩ := Qqk (f := f) (too_t hc8 hc9 (bne_iff_ne.1 hc13))
     rw [hr1, hr2, hr3]
     have hls := Qnu (Qci (bne_iff_ne.1 hc13))
     exact ⟨vqq12, Hqq12, by rw [Qdi (Qci (bne_iff_ne.1 hc13))]; rfl, Yx.cast gqq12 (by rw [hls]), (by rw [hls] at m17; exact (by
      have hT := m17
      try simp only [List.append_assoc, List.cons_append, List.nil_append, List.append_nil] at hT ⊢
      exact hT))⟩
    ·
     have hc13p := X3 hc13
     refine Qn (Qc (Qb ?_))
     refine Yb s0 <| Qd (Zi (r := 0) Fj rfl Je Zg rfl s4) <| Qd (Jk 0 Xl Zg rfl ((Mem.pick3 [_] Hqq12 [_, _] [_] _ m10)).h0 rfl) <| Qd (Qo Xl rfl Zg s5 ((Mem.pick3 [_] Hqq12 [_] [_] _ m10)).h0 Sv) ?_
     have hF19 : Mem w10 R (([(bs, .cells (Qz (sS (Za S h.p) vqq12)) 26 (0, 0))]) ++ (Hqq12 ++ ([(b6, .cells (cl u8 (List.replicate 32 0)) 23 (0, 0)), (b5, .cells (cl u8 f) 23 (0, 0)), (b4, .cells (Qz (sH h.c h.p h.n)) 53 (0, 0))]))) := by
      have hT := m10
      try simp only [List.append_assoc, List.cons_append, List.nil_append, List.append_nil] at hT ⊢
      exact hT
     refine Vw (oc76 (Ci rfl rfl rfl) (Qq7 bs (Za S h.p) vqq12 h.c f _ _ (Mem.give hF19) (hT.mono fun b o e => Mem.addRest hF19 e) sL sL)) ?_
     rintro _ w18 k_w18
     have m18 : Mem w18 R ([(bs, .cells (Qz (sS ((Za S h.p).renew h.c f) vqq12)) 26 (0, 0))] ++ (Hqq12 ++ ([(b6, .cells (cl u8 (List.replicate 32 0)) 23 (0, 0)), (b5, .cells (cl u8 f) 23 (0, 0)), (b4, .cells (Qz (sH h.c h.p h.n)) 53 (0, 0))]))) := ymA (Mem.back hF19 k_w18)
     refine rN ?_
     have hj0 := rch0_c hc8 hc9 (f := f)
     exact ⟨vqq12, Hqq12, (by rw [hj0]; exact gqq12), (too_c (X3 hc13)), s0, s1, s2, s4, s5, s6, (Eq.trans rfl (congrArg i64 (X3 hc13))), s21, (by rw [hj0]; exact (by
      have hT := m18
      try simp only [List.append_assoc, List.cons_append, List.nil_append, List.append_nil] at hT ⊢
      exact hT))⟩
   ·
    refine Qn (Qc (Qa (sR ?_)))
    refine Yb s7 <| Qd (x_neq 0 0) <| rN <| Ja rfl Jb ?_
    refine Qn (Qc (Qb ?_))
    refine Yb s0 <| Qd (Zi (r := 0) Fj rfl Je Zg rfl s4) <| Qd (Jk 0 Xl Zg rfl m7.h2 rfl) <| Qd (Qo Xl rfl Zg s5 m7.h1 Sv) ?_
    have hF22 : Mem w7 R (([(bs, .cells (Qz (sS S vk)) 26 (0, 0))]) ++ ([(b6, .cells (cl u8 (List.replicate 32 0)) 23 (0, 0)), (b5, .cells (cl u8 f) 23 (0, 0)), (b4, .cells (Qz (sH h.c h.p h.n)) 53 (0, 0))] ++ (Hk ++ ([])))) := by
     have hT := (Mem.pick [_, _, _] [_] _ m7)
     try simp only [List.append_assoc, List.cons_append, List.nil_append, List.append_nil] at hT ⊢
     exact hT
    refine Vw (oc76 (Ci rfl rfl rfl) (Qq7 bs S vk h.c f _ _ (Mem.give hF22) (hT.mono fun b o e => Mem.addRest hF22 e) sL sL)) ?_
    rintro _ w21 k_w21
    have m21 : Mem w21 R ([(bs, .cells (Qz (sS (S.renew h.c f) vk)) 26 (0, 0)), (b6, .cells (cl u8 (List.replicate 32 0)) 23 (0, 0)), (b5, .cells (cl u8 f) 23 (0, 0)), (b4, .cells (Qz (sH h.c h.p h.n)) 53 (0, 0))] ++ (Hk ++ ([]))) := ymA (Mem.back hF22 k_w21)
    refine rN ?_
    have hj0 := rch0_b hc8 hc9 (f := f)
    have m24 := (Mem.pick [_, _, _] [_] _ m21)
    have m25 := (Mem.pick [_, _, _] [_] _ m24)
    have m26 := (Mem.pick [_, _, _] [_] _ m25)
    have m27 := (Mem.pick [_, _, _, _] Hk _ m26)
    have m28 := (Mem.pick2 Hk [_, _, _] [_] _ m27)
    exact ⟨vk, Hk, (by rw [hj0]; exact gk), (too_b hc9), s0, s1, s2, s4, s5, s6, s7, s21, (by rw [hj0]; exact (by
     have hT := m28
     try simp only [List.append_assoc, List.cons_append, List.nil_append, List.append_nil] at hT ⊢
     exact hT))⟩
  ·
   refine Qn (Qc ?_)
   have hj0 := rch0_a hc8 (f := f)
   have m29 := (Mem.pick [_, _] [_] _ m7)
   have m30 := (Mem.pick [_, _] [_] _ m29)
   have m31 := (Mem.pick [_, _] [_] _ m30)
   have m32 := (Mem.pick [_, _, _, _] Hk _ m31)
   have m33 := (Mem.pick2 Hk [_, _, _] [_] _ m32)
   exact ⟨vk, Hk, (by rw [hj0]; exact gk), (too_a hc8), s0, s1, s2, s4, s5, s6, s7, s21, (by rw [hj0]; exact (by
    have hT := m33
    try simp only [List.append_assoc, List.cons_append, List.nil_append, List.append_nil] at hT ⊢
    exact hT))⟩
 rintro fr34 w35 ⟨vj, Hj, gj, htoo, s0, s1, s2, s4, s5, s6, s7, s21, m35⟩
 have hl2 := Qnt (Jp S h f) h.n h02.1 hhn.1 h02.2 hhn.2
 refine Qa (Qa ?_)
 refine Xg (dl 6) 6 Xo <| X6 rfl (Zi (r := 33) Fj rfl Je Ui rfl s4) <| Ym rfl (fun _ e' => Yi 2 Uu rfl ((Mem.pick3 [_] Hj [_, _] [_] _ (m35.ext e'))).h0 rfl) <| Uh rfl s0 <| X6 rfl (Zc rfl) <| X6 rfl (Zi (r := 163) Xt rfl Je Ui rfl rfl) <| Ym rfl (fun _ e' => Yi 8 Uu rfl (m35.ext e').h0 rfl) <| Gf m35 fun w36 m36 => Qd (Xa rfl rfl) <| rN ?_
 refine Zy rfl (fun hc37 => ?_) (fun hc37 => ?_)
 ·
  have hc37p := of_decide_eq_true hc37
  refine sR <| Qd (Qo Xl rfl Zg s6 ((Mem.pick2 [_] Hj [_] _ m36)).h0 Sv) <| Vf (Qg (f := u8) (l := List.replicate 32 0) Qs Zg s6 rfl sL ((Mem.pick2 [_] Hj [_] _ m36)).h0 Sv rfl) ?_
  rintro _ w38 uq38
  have m38 : Mem _ _ ([_, _] ++ (Hj ++ ([_, _]))) := Mem.upd0 (Mem.pick2 [_] Hj [_] _ m36) uq38
  refine Zx (i64 11) ?_
  refine rN (Zz (Yv ?_))
  refine Qp [(agg u8 (List.replicate 32 0)), (i64 11)] ⟨⟨_, s6, Xn Xl rfl Zg m38.h0 Sv⟩, rfl, trivial⟩ ?_
  have m39 := Mem.drop [_] _ m38
  have m40 := Mem.drop [_] _ (Mem.pick2 [_] Hj [_] _ m39)
  have m41 := Mem.drop [_] _ (Mem.pick2 [_] Hj [_] _ m40)
  obtain ⟨hr1, hr2, hr3⟩ := Qql htoo hc37p
  rw [hr1, hr2, hr3]
  exact ⟨vj, Hj, rfl, Yx.cast gj rfl, (by
   have hT := m41
   try simp only [List.append_assoc, List.cons_append, List.nil_append, List.append_nil] at hT ⊢
   exact hT)⟩
 ·
  have hc37p := of_decide_eq_false hc37
  refine Qn (Qc (Qa (sR ?_)))
  refine Yb s0 <| Qd (Zi (r := 33) Fj rfl Je Ui rfl s4) <| Qd (Yi 2 Uu rfl ((Mem.pick3 [_] Hj [_, _] [_] _ m36)).h0 rfl) ?_
  have hF43 : Mem w36 R (([(bs, .cells (Qz (sS (Jp S h f) vj)) 26 (0, 0))] ++ (Hj ++ ([]))) ++ ([(b6, .cells (cl u8 (List.replicate 32 0)) 23 (0, 0)), (b5, .cells (cl u8 f) 23 (0, 0)), (b4, .cells (Qz (sH h.c h.p h.n)) 53 (0, 0))])) := by
   have hT := (Mem.pick Hj [_] _ (Mem.pick [_] Hj _ m36))
   try simp only [List.append_assoc, List.cons_append, List.nil_append, List.append_nil] at hT ⊢
   exact hT
  refine Vw (oc75 (Xm rfl rfl) (Qq9 bs (Jp S h f) vj Hj h.n _ _ (Mem.give hF43) (hT.mono fun b o e => Mem.addRest hF43 e) gj sL sL sL)) ?_
  rintro _ w42 ⟨vqq44, Hqq44, rfl, gqq44, k_w42⟩
  have m42 : Mem w42 R ([(bs, .cells (Qz (sS (Za (Jp S h f) h.n) vqq44)) 26 (0, 0))] ++ (Hqq44 ++ ([(b6, .cells (cl u8 (List.replicate 32 0)) 23 (0, 0)), (b5, .cells (cl u8 f) 23 (0, 0)), (b4, .cells (Qz (sH h.c h.p h.n)) 53 (0, 0))]))) := ymA (Mem.back hF43 k_w42)
  refine Zx (i64 (G7 (Jp S h f) h.n)) ?_
  refine rN (sR ?_)
  refine Zm (i64 (G7 (Jp S h f) h.n)) <| Qd (We (b := 0) rfl rfl) <| rN ?_
  refine Zy rfl (fun hc45 => ?_) (fun hc45 => ?_)
  ·
   have hc45p := bne_iff_ne.1 hc45
   refine sR <| Qd (Qo Xl rfl Zg s6 ((Mem.pick2 [_] Hqq44 [_] _ m42)).h0 Sv) <| Zm (i64 (G7 (Jp S h f) h.n)) <| Vf (Qg (f := u8) (l := List.replicate 32 0) Qs Zg s6 rfl sL ((Mem.pick2 [_] Hqq44 [_] _ m42)).h0 Sv rfl) ?_
   rintro _ w46 uq46
   have m46 : Mem _ _ ([_, _] ++ (Hqq44 ++ ([_, _]))) := Mem.upd0 (Mem.pick2 [_] Hqq44 [_] _ m42) uq46
   refine Zx (i64 (G7 (Jp S h f) h.n)) ?_
   refine rN (Zz (Yv ?_))
   refine Qp [(agg u8 (List.replicate 32 0)), (i64 (G7 (Jp S h f) h.n))] ⟨⟨_, s6, Xn Xl rfl Zg m46.h0 Sv⟩, rfl, trivial⟩ ?_
   have m47 := Mem.drop [_] _ m46
   have m48 := Mem.drop [_] _ (Mem.pick2 [_] Hqq44 [_] _ m47)
   have m49 := Mem.drop [_] _ (Mem.pick2 [_] Hqq44 [_] _ m48)
   obtain ⟨hr1, hr2, hr3⟩ := Qqm htoo hc37p (bne_iff_ne.1 hc45)
   rw [hr1, hr2, hr3]
   exact ⟨vqq44, Hqq44, rfl, Yx.cast gqq44 rfl, (by
    have hT := m49
    try simp only [List.append_assoc, List.cons_append, List.nil_append, List.append_nil] at hT ⊢
    exact hT)⟩
  ·
   have hc45p := X3 hc45
   refine Qn (Qc (sR ?_))
   refine Yb s0 <| Yb s0 <| Qd (Zc rfl) <| Qd (Zi (r := 130) Xt rfl Je Zg rfl rfl) <| Qd (Jk 6 Xl Zg rfl m42.h0 rfl) <| U3 m42 (oc32 (Jv rfl) (Qpv _ _ (hT.mono fun b o e => (m42).rest b o e) sL)) fun w50 m50 => Yb rfl <| Qd (v := (agg u8 (Xj ((Za (Jp S h f) h.n).t) [2#8]))) (Zr rfl rfl) <| Qd (v := (agg u8 (Xj ((Za (Jp S h f) h.n).t) [1#8]))) (Zr rfl rfl) <| Qd (Zc rfl) <| Qd (Zi (r := 130) Xt rfl Je Zg rfl rfl) <| Ye m50 (Ug 6 (sE ((Za (Jp S h f) h.n).r) ((Za (Jp S h f) h.n).w) ((Za (Jp S h f) h.n).o) ((Za (Jp S h f) h.n).sb) ((Za (Jp S h f) h.n).tb) ((Za (Jp S h f) h.n).s) (Xj ((Za (Jp S h f) h.n).t) [2#8]) ((Za (Jp S h f) h.n).n1) ((Za (Jp S h f) h.n).n2) ((Za (Jp S h f) h.n).n3) vqq44) Qs Zg rfl rfl m50.h0 rfl) fun w52 m52 => Vf (Qg (f := u8) (l := Xj ((Za (Jp S h f) h.n).t) [1#8]) Qs Zg s6 rfl sL ((Mem.pick2 [_] Hqq44 [_] _ m52)).h0 Sv rfl) ?_
   rintro _ w53 uq53
   have m53 : Mem _ _ ([_, _] ++ (Hqq44 ++ ([_, _]))) := Mem.upd0 (Mem.pick2 [_] Hqq44 [_] _ m52) uq53
   refine rN (sR ?_)
   refine Yb s0 <| Qd (Zc rfl) <| Qd (Zi (r := 163) Xt rfl Je Ui rfl rfl) <| Qd (Yi 8 Uu rfl m53.h1 rfl) <| Qd (Zf (b := 1) rfl rfl oM oM) <| Qd (Zc rfl) <| Qd (Zi (r := 163) Xt rfl Je Ui rfl rfl) <| Vu m53 (G5 8 (sE ((Za (Jp S h f) h.n).r) ((Za (Jp S h f) h.n).w) ((Za (Jp S h f) h.n).o) ((Za (Jp S h f) h.n).sb) ((Za (Jp S h f) h.n).tb) ((Za (Jp S h f) h.n).s) (Xj ((Za (Jp S h f) h.n).t) [2#8]) ((Za (Jp S h f) h.n).n1) (((Za (Jp S h f) h.n).n2) + 1) ((Za (Jp S h f) h.n).n3) vqq44) Ui rfl rfl (Zv _) m53.h1 rfl rfl) fun w54 m54 => ?_
   refine rN (sR ?_)
   refine Qd (Qo Xl rfl Zg s6 m54.h0 Sv) <| Ye m54 (Qg (f := u8) (l := Xj ((Za (Jp S h f) h.n).t) [1#8]) Qs Zg s6 rfl sL m54.h0 Sv rfl) fun w55 m55 => Zx (i64 0) ?_
   refine rN (Zz ?_)
   refine Qp [(agg u8 (Xj ((Za (Jp S h f) h.n).t) [1#8])), (i64 0)] ⟨⟨_, s6, Xn Xl rfl Zg m55.h0 Sv⟩, rfl, trivial⟩ ?_
   have m56 := Mem.drop [_] _ m55
   have m57 := Mem.drop [_] _ (Mem.pick2 [_] Hqq44 [_] _ m56)
   have m58 := Mem.drop [_] _ (Mem.pick2 [_] Hqq44 [_] _ m57)
   obtain ⟨hr1, hr2, hr3⟩ := Qos htoo hc37p (X3 hc45)
   rw [hr1, hr2, hr3]
   exact ⟨vqq44, Hqq44, rfl, Yx.cast gqq44 rfl, (by
    have hT := m58
    try simp only [List.append_assoc, List.cons_append, List.nil_append, List.append_nil] at hT ⊢
    exact hT)⟩
end Go.Proofs.YtkmiemlpfkfiiaaDoor
