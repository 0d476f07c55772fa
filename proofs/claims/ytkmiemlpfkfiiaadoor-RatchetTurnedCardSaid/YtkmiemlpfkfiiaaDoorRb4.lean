/- The ratchet: a session is brought to a header. Conditions: none beyond those that each theorem states. -/
import Derived.Test.YtkmiemlpfkfiiaaDoorRb3
namespace Go.Proofs.YtkmiemlpfkfiiaaDoor
open List renaming append_assoc → aQ, append_nil → aZ, cons_append → aW, nil_append → aX, replicate → aA
open Mem renaming addOwn → ae, addRest → bV, back → dJ, drop → aF, give → dI, pick → aC, pick2 → aN, pick3 → ai, upd0 → bM
open Value renaming agg → aO, tuple → ak
open Tryd
set_option linter.unusedVariables false
set_option linter.unusedSimpArgs false
theorem Qsm (b : Z4) : 0 ≤ We b := by unfold We; omega
def Sn.renew (S : Sn) (c f : Z4) : Sn :=
 ⟨X8 (X8 S.r (Zu S.w c)) (Zu f c), F7 f, F7 c, true, true, Y7 (X8 S.r (Zu S.w c)) (Zu f c), Y7 S.r (Zu S.w c), 0, 0, S.n1, S.ks, Di _ _, Md _, Md _, Ec _ _, Ec _ _⟩
def Sn.take1 (S : Sn) : Sn := ⟨S.r, S.w, S.o, S.sb, S.tb, S.s, Xc S.t [2#8], S.n1, S.n2 + 1, S.n3, S.ks, S.hr, S.hw, S.ho, S.hs, V6 _ _⟩
structure Hd where
 c : Z4
 p : Int
 n : Int
 hc : c.length = 32
def Qej (S : Sn) (h : Hd) : Bool := h.c != S.o || !S.tb
def Qc6 (S : Sn) (h : Hd) : Bool := Qej S h && (S.tb && Qar S h.p)
def Jo (S : Sn) (h : Hd) (f : Z4) : Sn := if Qej S h then (if S.tb then (Q9 S h.p).renew h.c f else S.renew h.c f) else S
def Nq (S : Sn) (h : Hd) (f : Z4) : Int := if Qc6 S h then 12 else if h.n < (Jo S h f).n2 then 11 else if Qar (Jo S h f) h.n then 12 else 0
def Qbq (S : Sn) (h : Hd) (f : Z4) : Sn := if Qc6 S h then S else if h.n < (Jo S h f).n2 then Jo S h f else if Qar (Jo S h f) h.n then Jo S h f else (Q9 (Jo S h f) h.n).take1
def Qbd (S : Sn) (h : Hd) (f : Z4) : Z4 := if Nq S h f = 0 then Xc (Q9 (Jo S h f) h.n).t [1#8] else aA 32 0
theorem Qju (S : Sn) (h : Hd) (f : Z4) : (Qbd S h f).length = 32 := by unfold Qbd; split; exact V6 _ _; rfl
theorem Qjo {S : Sn} {c f : Z4} {v : Value} (hc : c.length = 32) (hf : f.length = 32) : sS (S.renew c f) v = sE (X8 (X8 S.r (Zu S.w c)) (Zu f c)) f c true true (Y7 (X8 S.r (Zu S.w c)) (Zu f c)) (Y7 S.r (Zu S.w c)) 0 0 S.n1 v := by
 show sE _ (F7 f) (F7 c) _ _ _ _ _ _ _ _ = _; rw [Ci hc, Ci hf]; rfl
theorem Qr2 (S : Sn) (k : Nat) : (S.trim k).n2 = S.n2 := rfl
theorem Qh8 (S : Sn) (n : Int) : Q9 S n = S ∨ Q9 S n = Qga S n := by unfold Q9; split; exact .inl rfl; exact .inr rfl
theorem Qo2 (S : Sn) (n : Int) (h0 : 0 ≤ S.n2) (hn : 0 ≤ n) (h : S.n2 ≤ 2147483648) (h1 : n ≤ 2147483647) : 0 ≤ (Q9 S n).n2 ∧ (Q9 S n).n2 ≤ 2147483648 := by
 rcases Qh8 S n with e | e <;> rw [e]
 ·exact ⟨h0, h⟩
 unfold Qga; rw [Qr2, Qft]; omega
theorem Qbv (S : Sn) (n : Int) : (Q9 S n).ks.length ≤ S.ks.length + 2000 := by
 rcases Qh8 S n with e | e <;> rw [e]
 ·omega
 unfold Qga; rw [← Qfm, List.length_drop]; omega
theorem Qsf (S : Sn) (h : Hd) (f : Z4) (h0 : 0 ≤ S.n2 ∧ S.n2 ≤ 2147483648) : 0 ≤ (Jo S h f).n2 ∧ (Jo S h f).n2 ≤ 2147483648 := by
 unfold Jo; split
 ·split <;> exact ⟨Int.le_refl (0 : Int), (by show (0 : Int) ≤ 2147483648; decide)⟩
 exact h0
theorem Qjv (S : Sn) (h : Hd) (f : Z4) : (Jo S h f).ks.length ≤ S.ks.length + 2000 := by
 unfold Jo; split
 ·split
  ·exact Qbv S h.p
  show S.ks.length ≤ _; omega
 omega
theorem rchS_len (S : Sn) (h : Hd) (f : Z4) : (Qbq S h f).ks.length ≤ S.ks.length + 4000 := by
 have h1 := Qjv S h f
 unfold Qbq; split
 ·omega
 split
 ·omega
 split
 ·omega
 have h2 := Qbv (Jo S h f) h.n
 show (Q9 (Jo S h f) h.n).ks.length ≤ _
 omega
theorem rch0_a {S : Sn} {h : Hd} {f : Z4} (h1 : Qej S h = false) : Jo S h f = S := by unfold Jo; rw [h1]; rfl
theorem Qp7 {S : Sn} {h : Hd} {f : Z4} (h1 : Qej S h = true) (h2 : S.tb = false) : Jo S h f = S.renew h.c f := by unfold Jo; rw [h1, h2]; rfl
theorem rch0_c {S : Sn} {h : Hd} {f : Z4} (h1 : Qej S h = true) (h2 : S.tb = true) : Jo S h f = (Q9 S h.p).renew h.c f := by unfold Jo; rw [h1, h2]; rfl
theorem Qdh {S : Sn} {n : Int} (h : Qar S n = false) : G5 S n = 0 := by unfold G5; rw [h]; rfl
theorem Qlu {S : Sn} {n : Int} (h : G5 S n = 0) : Qar S n = false := by
 cases e : Qar S n with
 | false => rfl
 | true => unfold G5 at h; rw [e] at h; exact absurd h Yx
theorem Qcd {S : Sn} {n : Int} (h : G5 S n ≠ 0) : Qar S n = true := by
 cases e : Qar S n with
 | true => rfl
 | false => exact absurd (Qdh e) h
theorem Qdg {S : Sn} {n : Int} (h : Qar S n = true) : G5 S n = 12 := by unfold G5; rw [h]; rfl
theorem Qo3 {S : Sn} {n : Int} (h : Qar S n = true) : Q9 S n = S := by unfold Q9; rw [h]; rfl
def Ns (b : Z4) : Bool := decide (40 ≤ b.length) && (decide (We (b.drop 32) ≤ 2147483647) && decide (We (b.drop 36) ≤ 2147483647))
def Xf (b : Z4) : Hd := if Ns b then ⟨F7 (b.take 32), We (b.drop 32), We (b.drop 36), Md _⟩ else ⟨aA 32 0, 0, 0, rfl⟩
def hdR (b : Z4) : Z4 := if Ns b then b.drop 40 else []
def hdE (b : Z4) : Int := if Ns b then 0 else 3
theorem Qsc {S : Sn} {h : Hd} {f : Z4} (h1 : Qc6 S h = true) : Nq S h f = 12 ∧ Qbq S h f = S ∧ Qbd S h f = aA 32 0 := by
 have e : Nq S h f = 12 := by unfold Nq; rw [h1]; rfl
 exact ⟨e, by unfold Qbq; rw [h1]; rfl, by unfold Qbd; rw [e]; rfl⟩
theorem Qsd {S : Sn} {h : Hd} {f : Z4} (h1 : Qc6 S h = false) (h2 : h.n < (Jo S h f).n2) : Nq S h f = 11 ∧ Qbq S h f = Jo S h f ∧ Qbd S h f = aA 32 0 := by
 have e : Nq S h f = 11 := by unfold Nq; rw [h1, if_pos h2]; rfl
 exact ⟨e, by unfold Qbq; rw [h1, if_pos h2]; rfl, by unfold Qbd; rw [e]; rfl⟩
theorem Qse {S : Sn} {h : Hd} {f : Z4} (h1 : Qc6 S h = false) (h2 : ¬ h.n < (Jo S h f).n2) (h3 : G5 (Jo S h f) h.n ≠ 0) : Nq S h f = G5 (Jo S h f) h.n ∧ Qbq S h f = Q9 (Jo S h f) h.n ∧ Qbd S h f = aA 32 0 := by
 have h4 := Qcd h3
 have e : Nq S h f = 12 := by unfold Nq; rw [h1, if_neg h2, h4]; rfl
 exact ⟨e.trans (Qdg h4).symm, by rw [Qo3 h4]; unfold Qbq; rw [h1, if_neg h2, h4]; rfl, by unfold Qbd; rw [e]; rfl⟩
theorem Qmy {S : Sn} {h : Hd} {f : Z4} (h1 : Qc6 S h = false) (h2 : ¬ h.n < (Jo S h f).n2) (h3 : G5 (Jo S h f) h.n = 0) : Nq S h f = 0 ∧ Qbq S h f = (Q9 (Jo S h f) h.n).take1 ∧ Qbd S h f = Xc (Q9 (Jo S h f) h.n).t [1#8] := by
 have h4 := Qlu h3
 have e : Nq S h f = 0 := by unfold Nq; rw [h1, if_neg h2, h4]; rfl
 exact ⟨e, by unfold Qbq; rw [h1, if_neg h2, h4]; rfl, by unfold Qbd; rw [e]; rfl⟩
theorem too_a {S : Sn} {h : Hd} (h1 : Qej S h = false) : Qc6 S h = false := by unfold Qc6; rw [h1]; rfl
theorem too_b {S : Sn} {h : Hd} (h1 : S.tb = false) : Qc6 S h = false := by unfold Qc6; rw [h1]; exact Bool.and_false _
theorem too_c {S : Sn} {h : Hd} (h3 : G5 S h.p = 0) : Qc6 S h = false := by unfold Qc6; rw [Qlu h3]; simp
theorem too_t {S : Sn} {h : Hd} (h1 : Qej S h = true) (h2 : S.tb = true) (h3 : G5 S h.p ≠ 0) : Qc6 S h = true := by unfold Qc6; rw [h1, h2, Qcd h3]; rfl
attribute [local irreducible] Si We Eg X8 Y7 Ba Wh Wv Kw Xc Gv Gn Zu Yy
set_option maxHeartbeats 2000000 in
theorem Qs2 (bs : Nat) (S : Sn) (vk : Value) (c f : Z4) (w0 : World) (R : Rest) (m0 : Mem w0 R [(bs, .cells (Qy (sS S vk)) 26 (0, 0))]) (hT : Tabs R.blk) (hcl : c.length = 32) (hfl : f.length = 32) : Xz prog 76 #[(ptr bs 0), (agg u8 c), (agg u8 f)] w0 (fun _ w1 => Mem w1 R [(bs, .cells (Qy (sS (S.renew c f) vk)) 26 (0, 0))]) := by
 refine Qz (args := [(ptr bs 0), (agg u8 c), (agg u8 f)]) func76 rfl ntmps76 results76 rfl ?_
 have hb0 := Di S.r (Zu S.w c)
 have hb1 := Ec S.r (Zu S.w c)
 have hb2 := Di (X8 S.r (Zu S.w c)) (Zu f c)
 have hb3 := Ec (X8 S.r (Zu S.w c)) (Zu f c)
 have hb4 := Gz S.w c
 have hb5 := Gz f c
 refine sR <| Y5 (Z5 (f := u8) (l := c) m0 rfl) fun w1 b4 m1 => Y5 (Z5 (f := u8) (l := f) m1 rfl) fun w2 b5 m2 => ?_
 refine rN (Qa ?_)
 refine Jy Xv <| Qbp [(0, false), (1, false), (2, false), (3, false), (4, false), (5, false), (6, false), (7, false), (8, false), (9, false), (10, false), (11, false), (12, false), (13, false), (14, false), (15, false), (16, false), (17, false), (18, true)] 19 [1, 15] rfl Xv <| Gu rfl rfl rfl (fun _ _hx => Jb (v := (ptr bs 0)) rfl) <| db_f rfl rfl (fun _ => Jb (v := (ptr bs 0)) rfl) <| Gu rfl rfl rfl (fun _ _hx => Jb (v := (ptr bs 0)) rfl) <| Gu rfl rfl rfl (fun _ _hx => Zc rfl) <| Gu rfl rfl rfl (fun _ _hx => Zl (r := 0) Yc rfl Jj Zh rfl rfl) <| Gu rfl rfl rfl (fun _ _hx => Jn 0 Xn Zh rfl (m2.ext _hx).h2 rfl) <| Gu rfl rfl rfl (fun _ _hx => Jb (v := (ptr bs 0)) rfl) <| Gu rfl rfl rfl (fun _ _hx => Zc rfl) <| Gu rfl rfl rfl (fun _ _hx => Zl (r := 32) Yc rfl Jj Zh rfl rfl) <| Gu rfl rfl rfl (fun _ _hx => Jn 1 Xn Zh rfl (m2.ext _hx).h2 rfl) ?_
 refine Gu rfl rfl rfl (fun _ _hx => Qn Xn rfl Zh rfl (m2.ext _hx).h1 Ph) <| Qhp (v := (agg u8 (Zu S.w c))) rfl rfl rfl (fun w3 e3 => oc57 (Xl rfl rfl) (Qi6 _ _ _ sL sL)) <| Qhp (v := (ak #[(agg u8 (X8 S.r (Zu S.w c))), (agg u8 (Y7 S.r (Zu S.w c)))])) rfl rfl rfl (fun w6 e6 => oc40 (Xl rfl rfl) (Qkl _ _ _ (hT.mono fun b o e => ((m2.ext e6)).rest b o e) sL sL)) <| Gu rfl rfl rfl (fun _ _hx => Jb rfl) <| Gu rfl rfl rfl (fun _ _hx => Zr rfl rfl) <| db_f rfl rfl (fun _ => Zr rfl rfl) <| Gu rfl rfl rfl (fun _ _hx => Zc rfl) <| Gu rfl rfl rfl (fun _ _hx => Zl (r := 0) Yc rfl Jj Zh rfl rfl) ?_
 refine db_n Xv rfl (fun w9 e9 => ?_)
 have m9 := m2.ext e9
 refine Vf.mono (Ue 0 (sE (X8 S.r (Zu S.w c)) S.w S.o S.sb S.tb S.s S.t S.n1 S.n2 S.n3 vk) Qr Zh rfl rfl m9.h2 rfl) ?_
 rintro _ w10 uq10
 have m10 := m9.upd2 uq10
 refine Qhq (fun w11 e11 => ?_)
 have m11 := m10.ext e11
 refine Qd (Zc rfl) <| Qd (Zl (r := 130) Yc rfl Jj Zh rfl rfl) <| Bj m11 (Ue 6 (sE (X8 S.r (Zu S.w c)) S.w S.o S.sb S.tb S.s (Y7 S.r (Zu S.w c)) S.n1 S.n2 S.n3 vk) Qr Zh rfl rfl m11.h2 rfl) fun w12 m12 => ?_
 refine rN (Qa ?_)
 refine Jy Xv <| Qbp [(0, false), (1, false), (2, false), (3, false), (4, false), (5, false), (6, false), (7, false), (8, false), (9, false), (10, false), (11, false), (12, false), (13, false), (14, false), (15, true)] 16 [1, 12] rfl Xv <| Gu rfl rfl rfl (fun _ _hx => Jb (v := (ptr bs 0)) rfl) <| db_f rfl rfl (fun _ => Jb (v := (ptr bs 0)) rfl) <| Gu rfl rfl rfl (fun _ _hx => Jb (v := (ptr bs 0)) rfl) <| Gu rfl rfl rfl (fun _ _hx => Zc rfl) <| Gu rfl rfl rfl (fun _ _hx => Zl (r := 0) Yc rfl Jj Zh rfl rfl) <| Gu rfl rfl rfl (fun _ _hx => Jn 0 Xn Zh rfl (m12.ext _hx).h2 rfl) <| Gu rfl rfl rfl (fun _ _hx => Qn Xn rfl Zh rfl (m12.ext _hx).h0 Ph) <| Gu rfl rfl rfl (fun _ _hx => Qn Xn rfl Zh rfl (m12.ext _hx).h1 Ph) <| Qhp (v := (agg u8 (Zu f c))) rfl rfl rfl (fun w13 e13 => oc57 (Xl rfl rfl) (Qi6 _ _ _ sL sL)) <| Qhp (v := (ak #[(agg u8 (X8 (X8 S.r (Zu S.w c)) (Zu f c))), (agg u8 (Y7 (X8 S.r (Zu S.w c)) (Zu f c)))])) rfl rfl rfl (fun w16 e16 => oc40 (Xl rfl rfl) (Qkl _ _ _ (hT.mono fun b o e => ((m12.ext e16)).rest b o e) sL sL)) ?_
 refine Gu rfl rfl rfl (fun _ _hx => Jb rfl) <| Gu rfl rfl rfl (fun _ _hx => Zr rfl rfl) <| db_f rfl rfl (fun _ => Zr rfl rfl) <| Gu rfl rfl rfl (fun _ _hx => Zc rfl) <| Gu rfl rfl rfl (fun _ _hx => Zl (r := 0) Yc rfl Jj Zh rfl rfl) ?_
 refine db_n Xv rfl (fun w19 e19 => ?_)
 have m19 := m12.ext e19
 refine Vf.mono (Ue 0 (sE (X8 (X8 S.r (Zu S.w c)) (Zu f c)) S.w S.o S.sb S.tb S.s (Y7 S.r (Zu S.w c)) S.n1 S.n2 S.n3 vk) Qr Zh rfl rfl m19.h2 rfl) ?_
 rintro _ w20 uq20
 have m20 := m19.upd2 uq20
 refine Qhq (fun w21 e21 => ?_)
 have m21 := m20.ext e21
 refine Qd (Zc rfl) <| Qd (Zl (r := 98) Yc rfl Jj Zh rfl rfl) <| Bj m21 (Ue 5 (sE (X8 (X8 S.r (Zu S.w c)) (Zu f c)) S.w S.o S.sb S.tb (Y7 (X8 S.r (Zu S.w c)) (Zu f c)) (Y7 S.r (Zu S.w c)) S.n1 S.n2 S.n3 vk) Qr Zh rfl rfl m21.h2 rfl) fun w22 m22 => ?_
 refine rN (Qa ?_)
 refine Jy Xv ?_
 have m23 := (aC [_] [_] _ m22)
 have m24 := (aC [_] [_] _ m23)
 have m25 := (aC [_, _] [_] _ m24)
 have hFM26 : Mem w22 R ([(bs, .cells (Qy (sE (X8 (X8 S.r (Zu S.w c)) (Zu f c)) S.w S.o S.sb S.tb (Y7 (X8 S.r (Zu S.w c)) (Zu f c)) (Y7 S.r (Zu S.w c)) S.n1 S.n2 S.n3 vk)) 26 (0, 0))] ++ [(b5, .cells (cl u8 f) 23 (0, 0)), (b4, .cells (cl u8 c) 23 (0, 0))]) := m25
 obtain ⟨RM26, hRM26⟩ : ∃ R2, R2 = Rest.add R [(b5, .cells (cl u8 f) 23 (0, 0)), (b4, .cells (cl u8 c) 23 (0, 0))] := ⟨_, rfl⟩
 have M260 : Mem w22 RM26 [(bs, .cells (Qy (sE (X8 (X8 S.r (Zu S.w c)) (Zu f c)) S.w S.o S.sb S.tb (Y7 (X8 S.r (Zu S.w c)) (Zu f c)) (Y7 S.r (Zu S.w c)) S.n1 S.n2 S.n3 vk)) 26 (0, 0))] := by rw [hRM26]; exact dI hFM26
 have ho27 : RM26.blk b5 = some (.cells (cl u8 f) 23 (0, 0)) := by rw [hRM26]; exact ae hFM26 (List.Mem.head _)
 have ho28 : RM26.blk b4 = some (.cells (cl u8 c) 23 (0, 0)) := by rw [hRM26]; exact ae hFM26 (List.Mem.tail _ (List.Mem.head _))
 have hT29 : Tabs RM26.blk := by rw [hRM26]; exact Tabs.mono hT fun b o e => bV hFM26 e
 refine Dk M260 [(0, false), (1, false), (2, false), (3, false), (4, false), (5, false), (6, false), (7, false), (8, true), (9, false), (10, false), (11, true), (12, false), (13, false), (14, true)] 15 rfl Xv <| N8 rfl (Jb (v := (ptr bs 0)) rfl) <| N8 rfl (Jb (v := (ptr bs 0)) rfl) <| N8 rfl (Jb (v := (ptr bs 0)) rfl) <| N8 rfl (Jb (v := (ptr bs 0)) rfl) <| yqH rfl (fun w _H _hx => Qn Xn rfl Zh rfl (_hx.rest _ _ ho27) Ph) <| yqH rfl (fun w _H _hx => Qn Xn rfl Zh rfl (_hx.rest _ _ ho28) Ph) <| N8 rfl (Zc rfl) <| N8 rfl (Zl (r := 32) Yc rfl Jj Zh rfl rfl) ?_
 refine Qhn rfl (fun w30 e30 => ?_)
 have m30 := M260.ext e30
 refine Vf.mono (Ue 1 (sE (X8 (X8 S.r (Zu S.w c)) (Zu f c)) f S.o S.sb S.tb (Y7 (X8 S.r (Zu S.w c)) (Zu f c)) (Y7 S.r (Zu S.w c)) S.n1 S.n2 S.n3 vk) Qr Zh rfl rfl m30.h0 rfl) ?_
 rintro _ w31 uq31
 have m31 := m30.upd0 uq31
 refine ⟨⟨_, m31⟩, ?_⟩
 refine N8 rfl (Zc rfl) <| N8 rfl (Zl (r := 64) Yc rfl Jj Zh rfl rfl) ?_
 refine Qhn rfl (fun w32 e32 => ?_)
 have m32 := m31.ext e32
 refine Vf.mono (Ue 2 (sE (X8 (X8 S.r (Zu S.w c)) (Zu f c)) f c S.sb S.tb (Y7 (X8 S.r (Zu S.w c)) (Zu f c)) (Y7 S.r (Zu S.w c)) S.n1 S.n2 S.n3 vk) Qr Zh rfl rfl m32.h0 rfl) ?_
 rintro _ w33 uq33
 have m33 := m32.upd0 uq33
 refine ⟨⟨_, m33⟩, ?_⟩
 refine N8 rfl (Zc rfl) <| N8 rfl (Zl (r := 96) Yc rfl Jj ti4 rfl rfl) ?_
 refine Qhn rfl (fun w34 e34 => ?_)
 have m34 := m33.ext e34
 refine Vf.mono (Ud 3 (sE (X8 (X8 S.r (Zu S.w c)) (Zu f c)) f c true S.tb (Y7 (X8 S.r (Zu S.w c)) (Zu f c)) (Y7 S.r (Zu S.w c)) S.n1 S.n2 S.n3 vk) ti4 rfl rfl rfl m34.h0 rfl rfl) ?_
 rintro _ w35 uq35
 have m35 := m34.upd0 uq35
 refine ⟨⟨_, m35⟩, ?_⟩
 refine Gf m35 fun w36 m36 => ?_
 have hX37 := m36
 rw [hRM26] at hX37
 have m38 : Mem w36 R [(bs, .cells (Qy (sE (X8 (X8 S.r (Zu S.w c)) (Zu f c)) f c true S.tb (Y7 (X8 S.r (Zu S.w c)) (Zu f c)) (Y7 S.r (Zu S.w c)) S.n1 S.n2 S.n3 vk)) 26 (0, 0)), (b5, .cells (cl u8 f) 23 (0, 0)), (b4, .cells (cl u8 c) 23 (0, 0))] := ymA (dJ hFM26 hX37)
 refine Qd (Zc rfl) <| Qd (Zl (r := 97) Yc rfl Jj ti4 rfl rfl) <| Ye m38 (Ud 4 (sE (X8 (X8 S.r (Zu S.w c)) (Zu f c)) f c true true (Y7 (X8 S.r (Zu S.w c)) (Zu f c)) (Y7 S.r (Zu S.w c)) S.n1 S.n2 S.n3 vk) ti4 rfl rfl rfl m38.h0 rfl rfl) fun w39 m39 => ?_
 refine rN (Qb ?_)
 refine Zm (ptr bs 0) <| Zm (ptr bs 0) <| Zm (ptr bs 0) <| Zm (ptr bs 0) <| Qd (Zc rfl) <| Qd (Zl (r := 162) Yc rfl Jj Uw rfl rfl) <| Qd (Y2 7 Fa rfl m39.h0 rfl) <| Qd (Zc rfl) <| Qd (Zl (r := 164) Yc rfl Jj Uw rfl rfl) <| Ye m39 (Ud 9 (sE (X8 (X8 S.r (Zu S.w c)) (Zu f c)) f c true true (Y7 (X8 S.r (Zu S.w c)) (Zu f c)) (Y7 S.r (Zu S.w c)) S.n1 S.n2 S.n1 vk) Uw rfl rfl (Zw _) m39.h0 rfl rfl) fun w40 m40 => Qd (Zc rfl) <| Qd (Zl (r := 162) Yc rfl Jj Uw rfl rfl) <| Ye m40 (Ud 7 (sE (X8 (X8 S.r (Zu S.w c)) (Zu f c)) f c true true (Y7 (X8 S.r (Zu S.w c)) (Zu f c)) (Y7 S.r (Zu S.w c)) 0 S.n2 S.n1 vk) Uw rfl rfl (Zw _) m40.h0 rfl rfl) fun w41 m41 => Qd (Zc rfl) <| Qd (Zl (r := 163) Yc rfl Jj Uw rfl rfl) <| Ye m41 (Ud 8 (sE (X8 (X8 S.r (Zu S.w c)) (Zu f c)) f c true true (Y7 (X8 S.r (Zu S.w c)) (Zu f c)) (Y7 S.r (Zu S.w c)) 0 0 S.n1 vk) Uw rfl rfl (Zw _) m41.h0 rfl rfl) fun w42 m42 => Zp <| La [] trivial ?_
 have m43 := aF [_] _ (aC [_] [_] _ m42)
 have m44 := aF [_] _ (aC [_] [_] _ m43)
 rw [Qjo hcl hfl]
 exact m44
set_option maxHeartbeats 2000000 in
theorem c_reach (bs : Nat) (S : Sn) (vk : Value) (Hk : List (Nat × Obj)) (h : Hd) (f : Z4) (w0 : World) (R : Rest) (m0 : Mem w0 R ([(bs, .cells (Qy (sS S vk)) 26 (0, 0))] ++ (Hk ++ ([])))) (hT : Tabs R.blk) (gk : Yu Jl 65 69 vk S.ks Hk) (hfl : f.length = 32) (hhp : 0 ≤ h.p ∧ h.p ≤ 2147483647) (hhn : 0 ≤ h.n ∧ h.n ≤ 2147483647) (hn2 : 0 ≤ S.n2 ∧ S.n2 ≤ 2147483647) (hkl : S.ks.length ≤ 10000) : Xz prog 53 #[(ptr bs 0), (aO (Qy (sH h.c h.p h.n))), (agg u8 f)] w0 (fun r w1 => ∃ vq Hq, r = ak #[(agg u8 (Qbd S h f)), i64 (Nq S h f)] ∧ Yu Jl 65 69 vq (Qbq S h f).ks Hq ∧ Mem w1 R ([(bs, .cells (Qy (sS (Qbq S h f) vq)) 26 (0, 0))] ++ Hq)) := by
 refine Qz (args := [(ptr bs 0), (aO (Qy (sH h.c h.p h.n))), (agg u8 f)]) func53 rfl ntmps53 results53 rfl ?_
 have hhc := h.hc
 have h02 := Qsf S h f ⟨by omega, by omega⟩
 have h0l := Qjv S h f
 have hll := Qbv S h.p
 refine sR <| Y5 (Fz (cs := (Qy (sH h.c h.p h.n))) m0 rfl) fun w1 b4 m1 => Y5 (Z5 (f := u8) (l := f) m1 rfl) fun w2 b5 m2 => Y5 (Q7 m2 Zh) fun w3 b6 m3 => Zx (i64 0) ?_
 refine rN (Qa (Qa ?_))
 refine Ri (J := fun g wv => g 0 = (ptr bs 0) ∧ g 1 = (aO (Qy (sH h.c h.p h.n))) ∧ g 2 = (agg u8 f) ∧ g 4 = (ptr b4 0) ∧ g 5 = (ptr b5 0) ∧ g 6 = (ptr b6 0) ∧ g 7 = (i64 0) ∧ g 21 = (bl (Qej S h)) ∧ Mem wv R ([(b6, .cells (cl u8 (aA 32 0)) 23 (0, 0)), (b5, .cells (cl u8 f) 23 (0, 0)), (b4, .cells (Qy (sH h.c h.p h.n)) 53 (0, 0)), (bs, .cells (Qy (sS S vk)) 26 (0, 0))] ++ (Hk ++ ([])))) ?_ ?_
 ·skip
  refine Xi (dl 6) 6 Xv <| X4 rfl (Zl (r := 0) F8 rfl Jj Zh rfl rfl) <| Yj rfl (fun _ e' => Jn 0 Xn Zh rfl (m3.ext e').h2 rfl) <| J7 rfl (ptr bs 0) <| X4 rfl (Zc rfl) <| X4 rfl (Zl (r := 64) Yc rfl Jj Zh rfl rfl) <| Yj rfl (fun _ e' => Jn 2 Xn Zh rfl (m3.ext e').h3 rfl) <| Gf m3 fun w4 m4 => Qd (D9 (l := h.c) (m := S.o) Xn V3 Yr eqGuardType23 rfl rfl ysF ysF) <| Zm (bl (h.c != S.o)) ?_
  rcases Bool.eq_false_or_eq_true (h.c != S.o) with hb5 | hb5
  ·
   have hb5p := bne_iff_ne.1 hb5
   refine Fe (s := 15) rfl rfl hb5 rfl <| Fe (s := 15) rfl rfl hb5 rfl <| Fe (s := 15) rfl rfl hb5 rfl <| Fe (s := 15) rfl rfl hb5 rfl <| Fe (s := 15) rfl rfl hb5 rfl <| Qd (G6 rfl hb5 rfl) <| rN ?_
   exact ⟨rfl, rfl, rfl, rfl, rfl, rfl, rfl, (Eq.trans rfl (congrArg bl (by unfold Qej; rw [hb5]; rfl))), m4⟩
  ·
   have hb5p := Yd hb5
   refine Yf (s := 15) rfl rfl hb5 rfl (Jb (v := (ptr bs 0)) rfl) <| Yf (s := 15) rfl rfl hb5 rfl (Zc rfl) <| Yf (s := 15) rfl rfl hb5 rfl (Zl (r := 97) Yc rfl Jj ti4 rfl rfl) <| Yf (s := 15) rfl rfl hb5 rfl (Y2 4 uT4 rfl m4.h3 rfl) <| Yf (s := 15) rfl rfl hb5 rfl (Ag rfl) <| Qd (Wn rfl hb5 rfl) <| rN ?_
   exact ⟨rfl, rfl, rfl, rfl, rfl, rfl, rfl, (Eq.trans rfl (congrArg bl (by unfold Qej; rw [hb5]; rfl))), m4⟩
 rintro fr6 w7 ⟨s0, s1, s2, s4, s5, s6, s7, s21, m7⟩
 refine Ri (J := fun g wv => ∃ (vj : Value) (Hj : List (Nat × Obj)), (Yu Jl 65 69 vj (Jo S h f).ks Hj) ∧ (Qc6 S h = false) ∧ g 0 = (ptr bs 0) ∧ g 1 = (aO (Qy (sH h.c h.p h.n))) ∧ g 2 = (agg u8 f) ∧ g 4 = (ptr b4 0) ∧ g 5 = (ptr b5 0) ∧ g 6 = (ptr b6 0) ∧ g 7 = (i64 0) ∧ g 21 = (bl (Qej S h)) ∧ Mem wv R ([(bs, .cells (Qy (sS (Jo S h f) vj)) 26 (0, 0))] ++ (Hj ++ ([(b6, .cells (cl u8 (aA 32 0)) 23 (0, 0)), (b5, .cells (cl u8 f) 23 (0, 0)), (b4, .cells (Qy (sH h.c h.p h.n)) 53 (0, 0))])))) ?_ ?_
 ·skip
  refine Zz s21 (fun hc8 => ?_) (fun hc8 => ?_)
  ·
   refine Qa (sR ?_)
   refine X9 s0 <| Qd (Zc rfl) <| Qd (Zl (r := 97) Yc rfl Jj ti4 rfl rfl) <| Qd (Y2 4 uT4 rfl m7.h3 rfl) <| rN ?_
   refine Zz rfl (fun hc9 => ?_) (fun hc9 => ?_)
   ·
    refine Qb <| X9 s0 <| Qd (Zl (r := 32) F8 rfl Jj Uw rfl s4) <| Qd (Y2 1 Fa rfl m7.h2 rfl) ?_
    have hF11 : Mem w7 R (([(bs, .cells (Qy (sS S vk)) 26 (0, 0))] ++ (Hk ++ ([]))) ++ ([(b6, .cells (cl u8 (aA 32 0)) 23 (0, 0)), (b5, .cells (cl u8 f) 23 (0, 0)), (b4, .cells (Qy (sH h.c h.p h.n)) 53 (0, 0))])) := by
     have hT := (aN Hk [_, _, _] [_] _ (aC [_, _, _, _] Hk _ m7))
     try simp only [aQ, aW, aX, aZ] at hT ⊢
     exact hT
    refine Vr (oc75 (Xl rfl rfl) (Qs4 bs S vk Hk h.p _ _ (dI hF11) (hT.mono fun b o e => bV hF11 e) gk sL sL sL)) ?_
    rintro _ w10 ⟨vqq12, Hqq12, rfl, gqq12, k_w10⟩
    have m10 : Mem w10 R ([(bs, .cells (Qy (sS (Q9 S h.p) vqq12)) 26 (0, 0))] ++ (Hqq12 ++ ([(b6, .cells (cl u8 (aA 32 0)) 23 (0, 0)), (b5, .cells (cl u8 f) 23 (0, 0)), (b4, .cells (Qy (sH h.c h.p h.n)) 53 (0, 0))]))) := ymA (dJ hF11 k_w10)
    refine Zx (i64 (G5 S h.p)) ?_
    refine rN (Qa (sR ?_))
    refine Zm (i64 (G5 S h.p)) <| Qd (Kz (b := 0) rfl rfl) <| rN ?_
    refine Zz rfl (fun hc13 => ?_) (fun hc13 => ?_)
    ·
     have hc13p := bne_iff_ne.1 hc13
     refine sR <| Qd (Qn Xn rfl Zh s6 ((aN [_] Hqq12 [_] _ m10)).h0 Ph) <| Zm (i64 (G5 S h.p)) <| Vd (Qg (f := u8) (l := aA 32 0) Qr Zh s6 rfl sL ((aN [_] Hqq12 [_] _ m10)).h0 Ph rfl) ?_
     rintro _ w14 uq14
     have m14 : Mem _ _ ([_, _] ++ (Hqq12 ++ ([_, _]))) := bM (aN [_] Hqq12 [_] _ m10) uq14
     refine Zx (i64 (G5 S h.p)) ?_
     refine rN (Z8 ?_)
     refine Yz (Yz ?_)
     refine Qq [(agg u8 (aA 32 0)), (i64 (G5 S h.p))] ⟨⟨_, s6, Xm Xn rfl Zh m14.h0 Ph⟩, rfl, trivial⟩ ?_
     have m15 := aF [_] _ m14
     have m16 := aF [_] _ (aN [_] Hqq12 [_] _ m15)
     have m17 := aF [_] _ (aN [_] Hqq12 [_] _ m16)
     obtain ⟨hr1, hr2, hr3⟩ := Qsc (f := f) (too_t hc8 hc9 (bne_iff_ne.1 hc13))
     rw [hr1, hr2, hr3]
     have hls := Qo3 (Qcd (bne_iff_ne.1 hc13))
     exact ⟨vqq12, Hqq12, by rw [Qdg (Qcd (bne_iff_ne.1 hc13))]; rfl, Yu.cast gqq12 (by rw [hls]), (by rw [hls] at m17; exact (by
      have hT := m17
      try simp only [aQ, aW, aX, aZ] at hT ⊢
      exact hT))⟩
    ·
     have hc13p := Yd hc13
     refine Qo (Qc (Qb ?_))
     refine X9 s0 <| Qd (Zl (r := 0) F8 rfl Jj Zh rfl s4) <| Qd (Jn 0 Xn Zh rfl ((ai [_] Hqq12 [_, _] [_] _ m10)).h0 rfl) <| Qd (Qn Xn rfl Zh s5 ((ai [_] Hqq12 [_] [_] _ m10)).h0 Ph) ?_
     have hF19 : Mem w10 R (([(bs, .cells (Qy (sS (Q9 S h.p) vqq12)) 26 (0, 0))]) ++ (Hqq12 ++ ([(b6, .cells (cl u8 (aA 32 0)) 23 (0, 0)), (b5, .cells (cl u8 f) 23 (0, 0)), (b4, .cells (Qy (sH h.c h.p h.n)) 53 (0, 0))]))) := by
      have hT := m10
      try simp only [aQ, aW, aX, aZ] at hT ⊢
      exact hT
     refine Vr (oc76 (Dy rfl rfl rfl) (Qs2 bs (Q9 S h.p) vqq12 h.c f _ _ (dI hF19) (hT.mono fun b o e => bV hF19 e) sL sL)) ?_
     rintro _ w18 k_w18
     have m18 : Mem w18 R ([(bs, .cells (Qy (sS ((Q9 S h.p).renew h.c f) vqq12)) 26 (0, 0))] ++ (Hqq12 ++ ([(b6, .cells (cl u8 (aA 32 0)) 23 (0, 0)), (b5, .cells (cl u8 f) 23 (0, 0)), (b4, .cells (Qy (sH h.c h.p h.n)) 53 (0, 0))]))) := ymA (dJ hF19 k_w18)
     refine rN ?_
     have hj0 := rch0_c hc8 hc9 (f := f)
     exact ⟨vqq12, Hqq12, (by rw [hj0]; exact gqq12), (too_c (Yd hc13)), s0, s1, s2, s4, s5, s6, (Eq.trans rfl (congrArg i64 (Yd hc13))), s21, (by rw [hj0]; exact (by
      have hT := m18
      try simp only [aQ, aW, aX, aZ] at hT ⊢
      exact hT))⟩
   ·
    refine Qo (Qc (Qa (sR ?_)))
    refine X9 s7 <| Qd (x_neq 0 0) <| rN <| Ja rfl Yx ?_
    refine Qo (Qc (Qb ?_))
    refine X9 s0 <| Qd (Zl (r := 0) F8 rfl Jj Zh rfl s4) <| Qd (Jn 0 Xn Zh rfl m7.h2 rfl) <| Qd (Qn Xn rfl Zh s5 m7.h1 Ph) ?_
    have hF22 : Mem w7 R (([(bs, .cells (Qy (sS S vk)) 26 (0, 0))]) ++ ([(b6, .cells (cl u8 (aA 32 0)) 23 (0, 0)), (b5, .cells (cl u8 f) 23 (0, 0)), (b4, .cells (Qy (sH h.c h.p h.n)) 53 (0, 0))] ++ (Hk ++ ([])))) := by
     have hT := (aC [_, _, _] [_] _ m7)
     try simp only [aQ, aW, aX, aZ] at hT ⊢
     exact hT
    refine Vr (oc76 (Dy rfl rfl rfl) (Qs2 bs S vk h.c f _ _ (dI hF22) (hT.mono fun b o e => bV hF22 e) sL sL)) ?_
    rintro _ w21 k_w21
    have m21 : Mem w21 R ([(bs, .cells (Qy (sS (S.renew h.c f) vk)) 26 (0, 0)), (b6, .cells (cl u8 (aA 32 0)) 23 (0, 0)), (b5, .cells (cl u8 f) 23 (0, 0)), (b4, .cells (Qy (sH h.c h.p h.n)) 53 (0, 0))] ++ (Hk ++ ([]))) := ymA (dJ hF22 k_w21)
    refine rN ?_
    have hj0 := Qp7 hc8 hc9 (f := f)
    have m24 := (aC [_, _, _] [_] _ m21)
    have m25 := (aC [_, _, _] [_] _ m24)
    have m26 := (aC [_, _, _] [_] _ m25)
    have m27 := (aC [_, _, _, _] Hk _ m26)
    have m28 := (aN Hk [_, _, _] [_] _ m27)
    exact ⟨vk, Hk, (by rw [hj0]; exact gk), (too_b hc9), s0, s1, s2, s4, s5, s6, s7, s21, (by rw [hj0]; exact (by
     have hT := m28
     try simp only [aQ, aW, aX, aZ] at hT ⊢
     exact hT))⟩
  ·
   refine Qo (Qc ?_)
   have hj0 := rch0_a hc8 (f := f)
   have m29 := (aC [_, _] [_] _ m7)
   have m30 := (aC [_, _] [_] _ m29)
   have m31 := (aC [_, _] [_] _ m30)
   have m32 := (aC [_, _, _, _] Hk _ m31)
   have m33 := (aN Hk [_, _, _] [_] _ m32)
   exact ⟨vk, Hk, (by rw [hj0]; exact gk), (too_a hc8), s0, s1, s2, s4, s5, s6, s7, s21, (by rw [hj0]; exact (by
    have hT := m33
    try simp only [aQ, aW, aX, aZ] at hT ⊢
    exact hT))⟩
 rintro fr34 w35 ⟨vj, Hj, gj, htoo, s0, s1, s2, s4, s5, s6, s7, s21, m35⟩
 have hl2 := Qo2 (Jo S h f) h.n h02.1 hhn.1 h02.2 hhn.2
 refine Qa (Qa ?_)
 refine Xi (dl 6) 6 Xv <| X4 rfl (Zl (r := 33) F8 rfl Jj Uw rfl s4) <| Yj rfl (fun _ e' => Y2 2 Fa rfl ((ai [_] Hj [_, _] [_] _ (m35.ext e'))).h0 rfl) <| Uh rfl s0 <| X4 rfl (Zc rfl) <| X4 rfl (Zl (r := 163) Yc rfl Jj Uw rfl rfl) <| Yj rfl (fun _ e' => Y2 8 Fa rfl (m35.ext e').h0 rfl) <| Gf m35 fun w36 m36 => Qd (Xd rfl rfl) <| rN ?_
 refine Zz rfl (fun hc37 => ?_) (fun hc37 => ?_)
 ·
  have hc37p := of_decide_eq_true hc37
  refine sR <| Qd (Qn Xn rfl Zh s6 ((aN [_] Hj [_] _ m36)).h0 Ph) <| Vd (Qg (f := u8) (l := aA 32 0) Qr Zh s6 rfl sL ((aN [_] Hj [_] _ m36)).h0 Ph rfl) ?_
  rintro _ w38 uq38
  have m38 : Mem _ _ ([_, _] ++ (Hj ++ ([_, _]))) := bM (aN [_] Hj [_] _ m36) uq38
  refine Zx (i64 11) ?_
  refine rN (Z8 (Yz ?_))
  refine Qq [(agg u8 (aA 32 0)), (i64 11)] ⟨⟨_, s6, Xm Xn rfl Zh m38.h0 Ph⟩, rfl, trivial⟩ ?_
  have m39 := aF [_] _ m38
  have m40 := aF [_] _ (aN [_] Hj [_] _ m39)
  have m41 := aF [_] _ (aN [_] Hj [_] _ m40)
  obtain ⟨hr1, hr2, hr3⟩ := Qsd htoo hc37p
  rw [hr1, hr2, hr3]
  exact ⟨vj, Hj, rfl, Yu.cast gj rfl, (by
   have hT := m41
   try simp only [aQ, aW, aX, aZ] at hT ⊢
   exact hT)⟩
 ·
  have hc37p := of_decide_eq_false hc37
  refine Qo (Qc (Qa (sR ?_)))
  refine X9 s0 <| Qd (Zl (r := 33) F8 rfl Jj Uw rfl s4) <| Qd (Y2 2 Fa rfl ((ai [_] Hj [_, _] [_] _ m36)).h0 rfl) ?_
  have hF43 : Mem w36 R (([(bs, .cells (Qy (sS (Jo S h f) vj)) 26 (0, 0))] ++ (Hj ++ ([]))) ++ ([(b6, .cells (cl u8 (aA 32 0)) 23 (0, 0)), (b5, .cells (cl u8 f) 23 (0, 0)), (b4, .cells (Qy (sH h.c h.p h.n)) 53 (0, 0))])) := by
   have hT := (aC Hj [_] _ (aC [_] Hj _ m36))
   try simp only [aQ, aW, aX, aZ] at hT ⊢
   exact hT
  refine Vr (oc75 (Xl rfl rfl) (Qs4 bs (Jo S h f) vj Hj h.n _ _ (dI hF43) (hT.mono fun b o e => bV hF43 e) gj sL sL sL)) ?_
  rintro _ w42 ⟨vqq44, Hqq44, rfl, gqq44, k_w42⟩
  have m42 : Mem w42 R ([(bs, .cells (Qy (sS (Q9 (Jo S h f) h.n) vqq44)) 26 (0, 0))] ++ (Hqq44 ++ ([(b6, .cells (cl u8 (aA 32 0)) 23 (0, 0)), (b5, .cells (cl u8 f) 23 (0, 0)), (b4, .cells (Qy (sH h.c h.p h.n)) 53 (0, 0))]))) := ymA (dJ hF43 k_w42)
  refine Zx (i64 (G5 (Jo S h f) h.n)) ?_
  refine rN (sR ?_)
  refine Zm (i64 (G5 (Jo S h f) h.n)) <| Qd (Kz (b := 0) rfl rfl) <| rN ?_
  refine Zz rfl (fun hc45 => ?_) (fun hc45 => ?_)
  ·
   have hc45p := bne_iff_ne.1 hc45
   refine sR <| Qd (Qn Xn rfl Zh s6 ((aN [_] Hqq44 [_] _ m42)).h0 Ph) <| Zm (i64 (G5 (Jo S h f) h.n)) <| Vd (Qg (f := u8) (l := aA 32 0) Qr Zh s6 rfl sL ((aN [_] Hqq44 [_] _ m42)).h0 Ph rfl) ?_
   rintro _ w46 uq46
   have m46 : Mem _ _ ([_, _] ++ (Hqq44 ++ ([_, _]))) := bM (aN [_] Hqq44 [_] _ m42) uq46
   refine Zx (i64 (G5 (Jo S h f) h.n)) ?_
   refine rN (Z8 (Yz ?_))
   refine Qq [(agg u8 (aA 32 0)), (i64 (G5 (Jo S h f) h.n))] ⟨⟨_, s6, Xm Xn rfl Zh m46.h0 Ph⟩, rfl, trivial⟩ ?_
   have m47 := aF [_] _ m46
   have m48 := aF [_] _ (aN [_] Hqq44 [_] _ m47)
   have m49 := aF [_] _ (aN [_] Hqq44 [_] _ m48)
   obtain ⟨hr1, hr2, hr3⟩ := Qse htoo hc37p (bne_iff_ne.1 hc45)
   rw [hr1, hr2, hr3]
   exact ⟨vqq44, Hqq44, rfl, Yu.cast gqq44 rfl, (by
    have hT := m49
    try simp only [aQ, aW, aX, aZ] at hT ⊢
    exact hT)⟩
  ·
   have hc45p := Yd hc45
   refine Qo (Qc (sR ?_))
   refine X9 s0 <| X9 s0 <| Qd (Zc rfl) <| Qd (Zl (r := 130) Yc rfl Jj Zh rfl rfl) <| Qd (Jn 6 Xn Zh rfl m42.h0 rfl) <| U5 m42 (oc32 (Jz rfl) (Qrj _ _ (hT.mono fun b o e => (m42).rest b o e) sL)) fun w50 m50 => X9 rfl <| Qd (v := (agg u8 (Xc ((Q9 (Jo S h f) h.n).t) [2#8]))) (Zr rfl rfl) <| Qd (v := (agg u8 (Xc ((Q9 (Jo S h f) h.n).t) [1#8]))) (Zr rfl rfl) <| Qd (Zc rfl) <| Qd (Zl (r := 130) Yc rfl Jj Zh rfl rfl) <| Ye m50 (Ue 6 (sE ((Q9 (Jo S h f) h.n).r) ((Q9 (Jo S h f) h.n).w) ((Q9 (Jo S h f) h.n).o) ((Q9 (Jo S h f) h.n).sb) ((Q9 (Jo S h f) h.n).tb) ((Q9 (Jo S h f) h.n).s) (Xc ((Q9 (Jo S h f) h.n).t) [2#8]) ((Q9 (Jo S h f) h.n).n1) ((Q9 (Jo S h f) h.n).n2) ((Q9 (Jo S h f) h.n).n3) vqq44) Qr Zh rfl rfl m50.h0 rfl) fun w52 m52 => Vd (Qg (f := u8) (l := Xc ((Q9 (Jo S h f) h.n).t) [1#8]) Qr Zh s6 rfl sL ((aN [_] Hqq44 [_] _ m52)).h0 Ph rfl) ?_
   rintro _ w53 uq53
   have m53 : Mem _ _ ([_, _] ++ (Hqq44 ++ ([_, _]))) := bM (aN [_] Hqq44 [_] _ m52) uq53
   refine rN (sR ?_)
   refine X9 s0 <| Qd (Zc rfl) <| Qd (Zl (r := 163) Yc rfl Jj Uw rfl rfl) <| Qd (Y2 8 Fa rfl m53.h1 rfl) <| Qd (Zg (b := 1) rfl rfl oM oM) <| Qd (Zc rfl) <| Qd (Zl (r := 163) Yc rfl Jj Uw rfl rfl) <| Vs m53 (Ud 8 (sE ((Q9 (Jo S h f) h.n).r) ((Q9 (Jo S h f) h.n).w) ((Q9 (Jo S h f) h.n).o) ((Q9 (Jo S h f) h.n).sb) ((Q9 (Jo S h f) h.n).tb) ((Q9 (Jo S h f) h.n).s) (Xc ((Q9 (Jo S h f) h.n).t) [2#8]) ((Q9 (Jo S h f) h.n).n1) (((Q9 (Jo S h f) h.n).n2) + 1) ((Q9 (Jo S h f) h.n).n3) vqq44) Uw rfl rfl (Zw _) m53.h1 rfl rfl) fun w54 m54 => ?_
   refine rN (sR ?_)
   refine Qd (Qn Xn rfl Zh s6 m54.h0 Ph) <| Ye m54 (Qg (f := u8) (l := Xc ((Q9 (Jo S h f) h.n).t) [1#8]) Qr Zh s6 rfl sL m54.h0 Ph rfl) fun w55 m55 => Zx (i64 0) ?_
   refine rN (Z8 ?_)
   refine Qq [(agg u8 (Xc ((Q9 (Jo S h f) h.n).t) [1#8])), (i64 0)] ⟨⟨_, s6, Xm Xn rfl Zh m55.h0 Ph⟩, rfl, trivial⟩ ?_
   have m56 := aF [_] _ m55
   have m57 := aF [_] _ (aN [_] Hqq44 [_] _ m56)
   have m58 := aF [_] _ (aN [_] Hqq44 [_] _ m57)
   obtain ⟨hr1, hr2, hr3⟩ := Qmy htoo hc37p (Yd hc45)
   rw [hr1, hr2, hr3]
   exact ⟨vqq44, Hqq44, rfl, Yu.cast gqq44 rfl, (by
    have hT := m58
    try simp only [aQ, aW, aX, aZ] at hT ⊢
    exact hT)⟩
end Go.Proofs.YtkmiemlpfkfiiaaDoor
