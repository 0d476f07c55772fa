/- The ratchet: a session is brought to a header. Conditions: none beyond those that each theorem states. -/
import Derived.Test.YtkmiemlpfkfiiaaDoorRb3
namespace Go.Proofs.YtkmiemlpfkfiiaaDoor
open Tryd
set_option linter.unusedVariables false
set_option linter.unusedSimpArgs false
theorem Qqn (b : Xg) : 0 ≤ Wu b := by unfold Wu; omega
def Sn.renew (S : Sn) (c f : Xg) : Sn :=
 ⟨Yg (Yg S.r (Qe S.w c)) (Qe f c), Bl f, Bl c, true, true, Jj (Yg S.r (Qe S.w c)) (Qe f c), Jj S.r (Qe S.w c), 0, 0, S.n1, S.ks, Dj _ _, Md _, Md _, Ed _ _, Ed _ _⟩
def Sn.take1 (S : Sn) : Sn := ⟨S.r, S.w, S.o, S.sb, S.tb, S.s, Xk S.t [2#8], S.n1, S.n2 + 1, S.n3, S.ks, S.hr, S.hw, S.ho, S.hs, Gi _ _⟩
structure Hd where
 c : Xg
 p : Int
 n : Int
 hc : c.length = 32
def Qeq (S : Sn) (h : Hd) : Bool := h.c != S.o || !S.tb
def Qdz (S : Sn) (h : Hd) : Bool := Qeq S h && (S.tb && Qcb S h.p)
def Jz (S : Sn) (h : Hd) (f : Xg) : Sn := if Qeq S h then (if S.tb then (Ze S h.p).renew h.c f else S.renew h.c f) else S
def Nr (S : Sn) (h : Hd) (f : Xg) : Int := if Qdz S h then 12 else if h.n < (Jz S h f).n2 then 11 else if Qcb (Jz S h f) h.n then 12 else 0
def Qbp (S : Sn) (h : Hd) (f : Xg) : Sn := if Qdz S h then S else if h.n < (Jz S h f).n2 then Jz S h f else if Qcb (Jz S h f) h.n then Jz S h f else (Ze (Jz S h f) h.n).take1
def Qbc (S : Sn) (h : Hd) (f : Xg) : Xg := if Nr S h f = 0 then Xk (Ze (Jz S h f) h.n).t [1#8] else List.replicate 32 0
theorem Qi1 (S : Sn) (h : Hd) (f : Xg) : (Qbc S h f).length = 32 := by unfold Qbc; split; exact Gi _ _; rfl
theorem Qiv {S : Sn} {c f : Xg} {v : Value} (hc : c.length = 32) (hf : f.length = 32) : sS (S.renew c f) v = sE (Yg (Yg S.r (Qe S.w c)) (Qe f c)) f c true true (Jj (Yg S.r (Qe S.w c)) (Qe f c)) (Jj S.r (Qe S.w c)) 0 0 S.n1 v := by
 show sE _ (Bl f) (Bl c) _ _ _ _ _ _ _ _ = _; rw [Rq hc, Rq hf]; rfl
theorem trim_n2 (S : Sn) (k : Nat) : (S.trim k).n2 = S.n2 := rfl
theorem Qhe (S : Sn) (n : Int) : Ze S n = S ∨ Ze S n = Qi5 S n := by unfold Ze; split; exact .inl rfl; exact .inr rfl
theorem Qnl (S : Sn) (n : Int) (h0 : 0 ≤ S.n2) (hn : 0 ≤ n) (h : S.n2 ≤ 2147483648) (h1 : n ≤ 2147483647) : 0 ≤ (Ze S n).n2 ∧ (Ze S n).n2 ≤ 2147483648 := by
 rcases Qhe S n with e | e <;> rw [e]
 ·exact ⟨h0, h⟩
 unfold Qi5; rw [trim_n2, Qh2]; omega
theorem Qbs (S : Sn) (n : Int) : (Ze S n).ks.length ≤ S.ks.length + 2000 := by
 rcases Qhe S n with e | e <;> rw [e]
 ·omega
 unfold Qi5; rw [← Qhz, List.length_drop]; omega
theorem Qqi (S : Sn) (h : Hd) (f : Xg) (h0 : 0 ≤ S.n2 ∧ S.n2 ≤ 2147483648) : 0 ≤ (Jz S h f).n2 ∧ (Jz S h f).n2 ≤ 2147483648 := by
 unfold Jz; split
 ·split <;> exact ⟨Int.le_refl (0 : Int), (by show (0 : Int) ≤ 2147483648; decide)⟩
 exact h0
theorem Qi2 (S : Sn) (h : Hd) (f : Xg) : (Jz S h f).ks.length ≤ S.ks.length + 2000 := by
 unfold Jz; split
 ·split
  ·exact Qbs S h.p
  show S.ks.length ≤ _; omega
 omega
theorem rchS_len (S : Sn) (h : Hd) (f : Xg) : (Qbp S h f).ks.length ≤ S.ks.length + 4000 := by
 have h1 := Qi2 S h f
 unfold Qbp; split
 ·omega
 split
 ·omega
 split
 ·omega
 have h2 := Qbs (Jz S h f) h.n
 show (Ze (Jz S h f) h.n).ks.length ≤ _
 omega
theorem rch0_a {S : Sn} {h : Hd} {f : Xg} (h1 : Qeq S h = false) : Jz S h f = S := by unfold Jz; rw [h1]; rfl
theorem rch0_b {S : Sn} {h : Hd} {f : Xg} (h1 : Qeq S h = true) (h2 : S.tb = false) : Jz S h f = S.renew h.c f := by unfold Jz; rw [h1, h2]; rfl
theorem rch0_c {S : Sn} {h : Hd} {f : Xg} (h1 : Qeq S h = true) (h2 : S.tb = true) : Jz S h f = (Ze S h.p).renew h.c f := by unfold Jz; rw [h1, h2]; rfl
theorem Qfk {S : Sn} {n : Int} (h : Qcb S n = false) : Uc S n = 0 := by unfold Uc; rw [h]; rfl
theorem Qkw {S : Sn} {n : Int} (h : Uc S n = 0) : Qcb S n = false := by
 cases e : Qcb S n with
 | false => rfl
 | true => unfold Uc at h; rw [e] at h; exact absurd h Jg
theorem Qb5 {S : Sn} {n : Int} (h : Uc S n ≠ 0) : Qcb S n = true := by
 cases e : Qcb S n with
 | true => rfl
 | false => exact absurd (Qfk e) h
theorem Qc7 {S : Sn} {n : Int} (h : Qcb S n = true) : Uc S n = 12 := by unfold Uc; rw [h]; rfl
theorem Qnm {S : Sn} {n : Int} (h : Qcb S n = true) : Ze S n = S := by unfold Ze; rw [h]; rfl
def Px (b : Xg) : Bool := decide (40 ≤ b.length) && (decide (Wu (b.drop 32) ≤ 2147483647) && decide (Wu (b.drop 36) ≤ 2147483647))
def Xn (b : Xg) : Hd := if Px b then ⟨Bl (b.take 32), Wu (b.drop 32), Wu (b.drop 36), Md _⟩ else ⟨List.replicate 32 0, 0, 0, rfl⟩
def hdR (b : Xg) : Xg := if Px b then b.drop 40 else []
def hdE (b : Xg) : Int := if Px b then 0 else 3
theorem Qqf {S : Sn} {h : Hd} {f : Xg} (h1 : Qdz S h = true) : Nr S h f = 12 ∧ Qbp S h f = S ∧ Qbc S h f = List.replicate 32 0 := by
 have e : Nr S h f = 12 := by unfold Nr; rw [h1]; rfl
 exact ⟨e, by unfold Qbp; rw [h1]; rfl, by unfold Qbc; rw [e]; rfl⟩
theorem Qqg {S : Sn} {h : Hd} {f : Xg} (h1 : Qdz S h = false) (h2 : h.n < (Jz S h f).n2) : Nr S h f = 11 ∧ Qbp S h f = Jz S h f ∧ Qbc S h f = List.replicate 32 0 := by
 have e : Nr S h f = 11 := by unfold Nr; rw [h1, if_pos h2]; rfl
 exact ⟨e, by unfold Qbp; rw [h1, if_pos h2]; rfl, by unfold Qbc; rw [e]; rfl⟩
theorem Qqh {S : Sn} {h : Hd} {f : Xg} (h1 : Qdz S h = false) (h2 : ¬ h.n < (Jz S h f).n2) (h3 : Uc (Jz S h f) h.n ≠ 0) : Nr S h f = Uc (Jz S h f) h.n ∧ Qbp S h f = Ze (Jz S h f) h.n ∧ Qbc S h f = List.replicate 32 0 := by
 have h4 := Qb5 h3
 have e : Nr S h f = 12 := by unfold Nr; rw [h1, if_neg h2, h4]; rfl
 exact ⟨e.trans (Qc7 h4).symm, by rw [Qnm h4]; unfold Qbp; rw [h1, if_neg h2, h4]; rfl, by unfold Qbc; rw [e]; rfl⟩
theorem Qoj {S : Sn} {h : Hd} {f : Xg} (h1 : Qdz S h = false) (h2 : ¬ h.n < (Jz S h f).n2) (h3 : Uc (Jz S h f) h.n = 0) : Nr S h f = 0 ∧ Qbp S h f = (Ze (Jz S h f) h.n).take1 ∧ Qbc S h f = Xk (Ze (Jz S h f) h.n).t [1#8] := by
 have h4 := Qkw h3
 have e : Nr S h f = 0 := by unfold Nr; rw [h1, if_neg h2, h4]; rfl
 exact ⟨e, by unfold Qbp; rw [h1, if_neg h2, h4]; rfl, by unfold Qbc; rw [e]; rfl⟩
theorem too_a {S : Sn} {h : Hd} (h1 : Qeq S h = false) : Qdz S h = false := by unfold Qdz; rw [h1]; rfl
theorem too_b {S : Sn} {h : Hd} (h1 : S.tb = false) : Qdz S h = false := by unfold Qdz; rw [h1]; exact Bool.and_false _
theorem too_c {S : Sn} {h : Hd} (h3 : Uc S h.p = 0) : Qdz S h = false := by unfold Qdz; rw [Qkw h3]; simp
theorem too_t {S : Sn} {h : Hd} (h1 : Qeq S h = true) (h2 : S.tb = true) (h3 : Uc S h.p ≠ 0) : Qdz S h = true := by unfold Qdz; rw [h1, h2, Qb5 h3]; rfl
attribute [local irreducible] Qc5 Wu Eh Yg Jj Tc Wp Vd Wn Xk Ae F6 Qe Qi
set_option maxHeartbeats 2000000 in
theorem Qqy (bs : Nat) (S : Sn) (vk : Value) (c f : Xg) (w0 : World) (R : Rest) (m0 : Mem w0 R [(bs, .cells (Qo (sS S vk)) 26 (0, 0))]) (hT : Tabs R.blk) (hcl : c.length = 32) (hfl : f.length = 32) : X9 prog 76 #[(ptr bs 0), (agg u8 c), (agg u8 f)] w0 (fun _ w1 => Mem w1 R [(bs, .cells (Qo (sS (S.renew c f) vk)) 26 (0, 0))]) := by
 refine Zb (args := [(ptr bs 0), (agg u8 c), (agg u8 f)]) func76 rfl ntmps76 results76 rfl ?_
 have hb0 := Dj S.r (Qe S.w c)
 have hb1 := Ed S.r (Qe S.w c)
 have hb2 := Dj (Yg S.r (Qe S.w c)) (Qe f c)
 have hb3 := Ed (Yg S.r (Qe S.w c)) (Qe f c)
 have hb4 := Ei S.w c
 have hb5 := Ei f c
 refine sR <| Y9 (Xa (f := u8) (l := c) m0 rfl) fun w1 b4 m1 => Y9 (Xa (f := u8) (l := f) m1 rfl) fun w2 b5 m2 => ?_
 refine rN (Qa ?_)
 refine Kr Xw <| Qbo [(0, false), (1, false), (2, false), (3, false), (4, false), (5, false), (6, false), (7, false), (8, false), (9, false), (10, false), (11, false), (12, false), (13, false), (14, false), (15, false), (16, false), (17, false), (18, true)] 19 [1, 15] rfl Xw <| G8 rfl rfl rfl (fun _ _hx => Yp (v := (ptr bs 0)) rfl) <| db_f rfl rfl (fun _ => Yp (v := (ptr bs 0)) rfl) <| G8 rfl rfl rfl (fun _ _hx => Yp (v := (ptr bs 0)) rfl) <| G8 rfl rfl rfl (fun _ _hx => Zh rfl) <| G8 rfl rfl rfl (fun _ _hx => Zr (r := 0) X3 rfl Jr Zl rfl rfl) <| G8 rfl rfl rfl (fun _ _hx => Jv 0 Xq Zl rfl (m2.ext _hx).h2 rfl) <| G8 rfl rfl rfl (fun _ _hx => Yp (v := (ptr bs 0)) rfl) <| G8 rfl rfl rfl (fun _ _hx => Zh rfl) <| G8 rfl rfl rfl (fun _ _hx => Zr (r := 32) X3 rfl Jr Zl rfl rfl) <| G8 rfl rfl rfl (fun _ _hx => Jv 1 Xq Zl rfl (m2.ext _hx).h2 rfl) ?_
 refine G8 rfl rfl rfl (fun _ _hx => Qp Xq rfl Zl rfl (m2.ext _hx).h1 Nj) <| Qgw (v := (agg u8 (Qe S.w c))) rfl rfl rfl (fun w3 e3 => oc57 (Xm rfl rfl) (Qia _ _ _ sL sL)) <| Qgw (v := (Value.tuple #[(agg u8 (Yg S.r (Qe S.w c))), (agg u8 (Jj S.r (Qe S.w c)))])) rfl rfl rfl (fun w6 e6 => oc40 (Xm rfl rfl) (Qjp _ _ _ (hT.mono fun b o e => ((m2.ext e6)).rest b o e) sL sL)) <| G8 rfl rfl rfl (fun _ _hx => Yp rfl) <| G8 rfl rfl rfl (fun _ _hx => Zm rfl rfl) <| db_f rfl rfl (fun _ => Zm rfl rfl) <| G8 rfl rfl rfl (fun _ _hx => Zh rfl) <| G8 rfl rfl rfl (fun _ _hx => Zr (r := 0) X3 rfl Jr Zl rfl rfl) ?_
 refine db_n Xw rfl (fun w9 e9 => ?_)
 have m9 := m2.ext e9
 refine Vp.mono (Uj 0 (sE (Yg S.r (Qe S.w c)) S.w S.o S.sb S.tb S.s S.t S.n1 S.n2 S.n3 vk) Qy Zl rfl rfl m9.h2 rfl) ?_
 rintro _ w10 uq10
 have m10 := m9.upd2 uq10
 refine Qgx (fun w11 e11 => ?_)
 have m11 := m10.ext e11
 refine Qd (Zh rfl) <| Qd (Zr (r := 130) X3 rfl Jr Zl rfl rfl) <| Bh m11 (Uj 6 (sE (Yg S.r (Qe S.w c)) S.w S.o S.sb S.tb S.s (Jj S.r (Qe S.w c)) S.n1 S.n2 S.n3 vk) Qy Zl rfl rfl m11.h2 rfl) fun w12 m12 => ?_
 refine rN (Qa ?_)
 refine Kr Xw <| Qbo [(0, false), (1, false), (2, false), (3, false), (4, false), (5, false), (6, false), (7, false), (8, false), (9, false), (10, false), (11, false), (12, false), (13, false), (14, false), (15, true)] 16 [1, 12] rfl Xw <| G8 rfl rfl rfl (fun _ _hx => Yp (v := (ptr bs 0)) rfl) <| db_f rfl rfl (fun _ => Yp (v := (ptr bs 0)) rfl) <| G8 rfl rfl rfl (fun _ _hx => Yp (v := (ptr bs 0)) rfl) <| G8 rfl rfl rfl (fun _ _hx => Zh rfl) <| G8 rfl rfl rfl (fun _ _hx => Zr (r := 0) X3 rfl Jr Zl rfl rfl) <| G8 rfl rfl rfl (fun _ _hx => Jv 0 Xq Zl rfl (m12.ext _hx).h2 rfl) <| G8 rfl rfl rfl (fun _ _hx => Qp Xq rfl Zl rfl (m12.ext _hx).h0 Nj) <| G8 rfl rfl rfl (fun _ _hx => Qp Xq rfl Zl rfl (m12.ext _hx).h1 Nj) <| Qgw (v := (agg u8 (Qe f c))) rfl rfl rfl (fun w13 e13 => oc57 (Xm rfl rfl) (Qia _ _ _ sL sL)) <| Qgw (v := (Value.tuple #[(agg u8 (Yg (Yg S.r (Qe S.w c)) (Qe f c))), (agg u8 (Jj (Yg S.r (Qe S.w c)) (Qe f c)))])) rfl rfl rfl (fun w16 e16 => oc40 (Xm rfl rfl) (Qjp _ _ _ (hT.mono fun b o e => ((m12.ext e16)).rest b o e) sL sL)) ?_
 refine G8 rfl rfl rfl (fun _ _hx => Yp rfl) <| G8 rfl rfl rfl (fun _ _hx => Zm rfl rfl) <| db_f rfl rfl (fun _ => Zm rfl rfl) <| G8 rfl rfl rfl (fun _ _hx => Zh rfl) <| G8 rfl rfl rfl (fun _ _hx => Zr (r := 0) X3 rfl Jr Zl rfl rfl) ?_
 refine db_n Xw rfl (fun w19 e19 => ?_)
 have m19 := m12.ext e19
 refine Vp.mono (Uj 0 (sE (Yg (Yg S.r (Qe S.w c)) (Qe f c)) S.w S.o S.sb S.tb S.s (Jj S.r (Qe S.w c)) S.n1 S.n2 S.n3 vk) Qy Zl rfl rfl m19.h2 rfl) ?_
 rintro _ w20 uq20
 have m20 := m19.upd2 uq20
 refine Qgx (fun w21 e21 => ?_)
 have m21 := m20.ext e21
 refine Qd (Zh rfl) <| Qd (Zr (r := 98) X3 rfl Jr Zl rfl rfl) <| Bh m21 (Uj 5 (sE (Yg (Yg S.r (Qe S.w c)) (Qe f c)) S.w S.o S.sb S.tb (Jj (Yg S.r (Qe S.w c)) (Qe f c)) (Jj S.r (Qe S.w c)) S.n1 S.n2 S.n3 vk) Qy Zl rfl rfl m21.h2 rfl) fun w22 m22 => ?_
 refine rN (Qa ?_)
 refine Kr Xw ?_
 have m23 := (Mem.pick [_] [_] _ m22)
 have m24 := (Mem.pick [_] [_] _ m23)
 have m25 := (Mem.pick [_, _] [_] _ m24)
 have hFM26 : Mem w22 R ([(bs, .cells (Qo (sE (Yg (Yg S.r (Qe S.w c)) (Qe f c)) S.w S.o S.sb S.tb (Jj (Yg S.r (Qe S.w c)) (Qe f c)) (Jj S.r (Qe S.w c)) S.n1 S.n2 S.n3 vk)) 26 (0, 0))] ++ [(b5, .cells (cl u8 f) 23 (0, 0)), (b4, .cells (cl u8 c) 23 (0, 0))]) := m25
 obtain ⟨RM26, hRM26⟩ : ∃ R2, R2 = Rest.add R [(b5, .cells (cl u8 f) 23 (0, 0)), (b4, .cells (cl u8 c) 23 (0, 0))] := ⟨_, rfl⟩
 have M260 : Mem w22 RM26 [(bs, .cells (Qo (sE (Yg (Yg S.r (Qe S.w c)) (Qe f c)) S.w S.o S.sb S.tb (Jj (Yg S.r (Qe S.w c)) (Qe f c)) (Jj S.r (Qe S.w c)) S.n1 S.n2 S.n3 vk)) 26 (0, 0))] := by rw [hRM26]; exact Mem.give hFM26
 have ho27 : RM26.blk b5 = some (.cells (cl u8 f) 23 (0, 0)) := by rw [hRM26]; exact Mem.addOwn hFM26 (List.Mem.head _)
 have ho28 : RM26.blk b4 = some (.cells (cl u8 c) 23 (0, 0)) := by rw [hRM26]; exact Mem.addOwn hFM26 (List.Mem.tail _ (List.Mem.head _))
 have hT29 : Tabs RM26.blk := by rw [hRM26]; exact Tabs.mono hT fun b o e => Mem.addRest hFM26 e
 refine Dl M260 [(0, false), (1, false), (2, false), (3, false), (4, false), (5, false), (6, false), (7, false), (8, true), (9, false), (10, false), (11, true), (12, false), (13, false), (14, true)] 15 rfl Xw <| N8 rfl (Yp (v := (ptr bs 0)) rfl) <| N8 rfl (Yp (v := (ptr bs 0)) rfl) <| N8 rfl (Yp (v := (ptr bs 0)) rfl) <| N8 rfl (Yp (v := (ptr bs 0)) rfl) <| yqH rfl (fun w _H _hx => Qp Xq rfl Zl rfl (_hx.rest _ _ ho27) Nj) <| yqH rfl (fun w _H _hx => Qp Xq rfl Zl rfl (_hx.rest _ _ ho28) Nj) <| N8 rfl (Zh rfl) <| N8 rfl (Zr (r := 32) X3 rfl Jr Zl rfl rfl) ?_
 refine Qgu rfl (fun w30 e30 => ?_)
 have m30 := M260.ext e30
 refine Vp.mono (Uj 1 (sE (Yg (Yg S.r (Qe S.w c)) (Qe f c)) f S.o S.sb S.tb (Jj (Yg S.r (Qe S.w c)) (Qe f c)) (Jj S.r (Qe S.w c)) S.n1 S.n2 S.n3 vk) Qy Zl rfl rfl m30.h0 rfl) ?_
 rintro _ w31 uq31
 have m31 := m30.upd0 uq31
 refine ⟨⟨_, m31⟩, ?_⟩
 refine N8 rfl (Zh rfl) <| N8 rfl (Zr (r := 64) X3 rfl Jr Zl rfl rfl) ?_
 refine Qgu rfl (fun w32 e32 => ?_)
 have m32 := m31.ext e32
 refine Vp.mono (Uj 2 (sE (Yg (Yg S.r (Qe S.w c)) (Qe f c)) f c S.sb S.tb (Jj (Yg S.r (Qe S.w c)) (Qe f c)) (Jj S.r (Qe S.w c)) S.n1 S.n2 S.n3 vk) Qy Zl rfl rfl m32.h0 rfl) ?_
 rintro _ w33 uq33
 have m33 := m32.upd0 uq33
 refine ⟨⟨_, m33⟩, ?_⟩
 refine N8 rfl (Zh rfl) <| N8 rfl (Zr (r := 96) X3 rfl Jr ti4 rfl rfl) ?_
 refine Qgu rfl (fun w34 e34 => ?_)
 have m34 := m33.ext e34
 refine Vp.mono (Ui 3 (sE (Yg (Yg S.r (Qe S.w c)) (Qe f c)) f c true S.tb (Jj (Yg S.r (Qe S.w c)) (Qe f c)) (Jj S.r (Qe S.w c)) S.n1 S.n2 S.n3 vk) ti4 rfl rfl rfl m34.h0 rfl rfl) ?_
 rintro _ w35 uq35
 have m35 := m34.upd0 uq35
 refine ⟨⟨_, m35⟩, ?_⟩
 refine Gs m35 fun w36 m36 => ?_
 have hX37 := m36
 rw [hRM26] at hX37
 have m38 : Mem w36 R [(bs, .cells (Qo (sE (Yg (Yg S.r (Qe S.w c)) (Qe f c)) f c true S.tb (Jj (Yg S.r (Qe S.w c)) (Qe f c)) (Jj S.r (Qe S.w c)) S.n1 S.n2 S.n3 vk)) 26 (0, 0)), (b5, .cells (cl u8 f) 23 (0, 0)), (b4, .cells (cl u8 c) 23 (0, 0))] := ymA (Mem.back hFM26 hX37)
 refine Qd (Zh rfl) <| Qd (Zr (r := 97) X3 rfl Jr ti4 rfl rfl) <| Ye m38 (Ui 4 (sE (Yg (Yg S.r (Qe S.w c)) (Qe f c)) f c true true (Jj (Yg S.r (Qe S.w c)) (Qe f c)) (Jj S.r (Qe S.w c)) S.n1 S.n2 S.n3 vk) ti4 rfl rfl rfl m38.h0 rfl rfl) fun w39 m39 => ?_
 refine rN (Qb ?_)
 refine Zp (ptr bs 0) <| Zp (ptr bs 0) <| Zp (ptr bs 0) <| Zp (ptr bs 0) <| Qd (Zh rfl) <| Qd (Zr (r := 162) X3 rfl Jr U0 rfl rfl) <| Qd (Y8 7 Fj rfl m39.h0 rfl) <| Qd (Zh rfl) <| Qd (Zr (r := 164) X3 rfl Jr U0 rfl rfl) <| Ye m39 (Ui 9 (sE (Yg (Yg S.r (Qe S.w c)) (Qe f c)) f c true true (Jj (Yg S.r (Qe S.w c)) (Qe f c)) (Jj S.r (Qe S.w c)) S.n1 S.n2 S.n1 vk) U0 rfl rfl (Z4 _) m39.h0 rfl rfl) fun w40 m40 => Qd (Zh rfl) <| Qd (Zr (r := 162) X3 rfl Jr U0 rfl rfl) <| Ye m40 (Ui 7 (sE (Yg (Yg S.r (Qe S.w c)) (Qe f c)) f c true true (Jj (Yg S.r (Qe S.w c)) (Qe f c)) (Jj S.r (Qe S.w c)) 0 S.n2 S.n1 vk) U0 rfl rfl (Z4 _) m40.h0 rfl rfl) fun w41 m41 => Qd (Zh rfl) <| Qd (Zr (r := 163) X3 rfl Jr U0 rfl rfl) <| Ye m41 (Ui 8 (sE (Yg (Yg S.r (Qe S.w c)) (Qe f c)) f c true true (Jj (Yg S.r (Qe S.w c)) (Qe f c)) (Jj S.r (Qe S.w c)) 0 0 S.n1 vk) U0 rfl rfl (Z4 _) m41.h0 rfl rfl) fun w42 m42 => Zv <| Ld [] trivial ?_
 have m43 := Mem.drop [_] _ (Mem.pick [_] [_] _ m42)
 have m44 := Mem.drop [_] _ (Mem.pick [_] [_] _ m43)
 rw [Qiv hcl hfl]
 exact m44
set_option maxHeartbeats 2000000 in
theorem c_reach (bs : Nat) (S : Sn) (vk : Value) (Hk : List (Nat × Obj)) (h : Hd) (f : Xg) (w0 : World) (R : Rest) (m0 : Mem w0 R ([(bs, .cells (Qo (sS S vk)) 26 (0, 0))] ++ (Hk ++ ([])))) (hT : Tabs R.blk) (gk : Yz Jt 65 69 vk S.ks Hk) (hfl : f.length = 32) (hhp : 0 ≤ h.p ∧ h.p ≤ 2147483647) (hhn : 0 ≤ h.n ∧ h.n ≤ 2147483647) (hn2 : 0 ≤ S.n2 ∧ S.n2 ≤ 2147483647) (hkl : S.ks.length ≤ 10000) : X9 prog 53 #[(ptr bs 0), (Value.agg (Qo (sH h.c h.p h.n))), (agg u8 f)] w0 (fun r w1 => ∃ vq Hq, r = Value.tuple #[(agg u8 (Qbc S h f)), i64 (Nr S h f)] ∧ Yz Jt 65 69 vq (Qbp S h f).ks Hq ∧ Mem w1 R ([(bs, .cells (Qo (sS (Qbp S h f) vq)) 26 (0, 0))] ++ Hq)) := by
 refine Zb (args := [(ptr bs 0), (Value.agg (Qo (sH h.c h.p h.n))), (agg u8 f)]) func53 rfl ntmps53 results53 rfl ?_
 have hhc := h.hc
 have h02 := Qqi S h f ⟨by omega, by omega⟩
 have h0l := Qi2 S h f
 have hll := Qbs S h.p
 refine sR <| Y9 (F8 (cs := (Qo (sH h.c h.p h.n))) m0 rfl) fun w1 b4 m1 => Y9 (Xa (f := u8) (l := f) m1 rfl) fun w2 b5 m2 => Y9 (Zc m2 Zl) fun w3 b6 m3 => Zz (i64 0) ?_
 refine rN (Qa (Qa ?_))
 refine Bq (J := fun g wv => g 0 = (ptr bs 0) ∧ g 1 = (Value.agg (Qo (sH h.c h.p h.n))) ∧ g 2 = (agg u8 f) ∧ g 4 = (ptr b4 0) ∧ g 5 = (ptr b5 0) ∧ g 6 = (ptr b6 0) ∧ g 7 = (i64 0) ∧ g 21 = (bl (Qeq S h)) ∧ Mem wv R ([(b6, .cells (cl u8 (List.replicate 32 0)) 23 (0, 0)), (b5, .cells (cl u8 f) 23 (0, 0)), (b4, .cells (Qo (sH h.c h.p h.n)) 53 (0, 0)), (bs, .cells (Qo (sS S vk)) 26 (0, 0))] ++ (Hk ++ ([])))) ?_ ?_
 ·skip
  refine Xl (dl 6) 6 Xw <| Yb rfl (Zr (r := 0) Ea rfl Jr Zl rfl rfl) <| Yn rfl (fun _ e' => Jv 0 Xq Zl rfl (m3.ext e').h2 rfl) <| Ky rfl (ptr bs 0) <| Yb rfl (Zh rfl) <| Yb rfl (Zr (r := 64) X3 rfl Jr Zl rfl rfl) <| Yn rfl (fun _ e' => Jv 2 Xq Zl rfl (m3.ext e').h3 rfl) <| Gs m3 fun w4 m4 => Qd (Ce (l := h.c) (m := S.o) Xq Gl Y0 eqGuardType23 rfl rfl ysF ysF) <| Zp (bl (h.c != S.o)) ?_
  rcases Bool.eq_false_or_eq_true (h.c != S.o) with hb5 | hb5
  ·
   have hb5p := bne_iff_ne.1 hb5
   refine W9 (s := 15) rfl rfl hb5 rfl <| W9 (s := 15) rfl rfl hb5 rfl <| W9 (s := 15) rfl rfl hb5 rfl <| W9 (s := 15) rfl rfl hb5 rfl <| W9 (s := 15) rfl rfl hb5 rfl <| Qd (Vm rfl hb5 rfl) <| rN ?_
   exact ⟨rfl, rfl, rfl, rfl, rfl, rfl, rfl, (Eq.trans rfl (congrArg bl (by unfold Qeq; rw [hb5]; rfl))), m4⟩
  ·
   have hb5p := X0 hb5
   refine Z5 (s := 15) rfl rfl hb5 rfl (Yp (v := (ptr bs 0)) rfl) <| Z5 (s := 15) rfl rfl hb5 rfl (Zh rfl) <| Z5 (s := 15) rfl rfl hb5 rfl (Zr (r := 97) X3 rfl Jr ti4 rfl rfl) <| Z5 (s := 15) rfl rfl hb5 rfl (Y8 4 uT4 rfl m4.h3 rfl) <| Z5 (s := 15) rfl rfl hb5 rfl (Ut rfl) <| Qd (Y4 rfl hb5 rfl) <| rN ?_
   exact ⟨rfl, rfl, rfl, rfl, rfl, rfl, rfl, (Eq.trans rfl (congrArg bl (by unfold Qeq; rw [hb5]; rfl))), m4⟩
 rintro fr6 w7 ⟨s0, s1, s2, s4, s5, s6, s7, s21, m7⟩
 refine Bq (J := fun g wv => ∃ (vj : Value) (Hj : List (Nat × Obj)), (Yz Jt 65 69 vj (Jz S h f).ks Hj) ∧ (Qdz S h = false) ∧ g 0 = (ptr bs 0) ∧ g 1 = (Value.agg (Qo (sH h.c h.p h.n))) ∧ g 2 = (agg u8 f) ∧ g 4 = (ptr b4 0) ∧ g 5 = (ptr b5 0) ∧ g 6 = (ptr b6 0) ∧ g 7 = (i64 0) ∧ g 21 = (bl (Qeq S h)) ∧ Mem wv R ([(bs, .cells (Qo (sS (Jz S h f) vj)) 26 (0, 0))] ++ (Hj ++ ([(b6, .cells (cl u8 (List.replicate 32 0)) 23 (0, 0)), (b5, .cells (cl u8 f) 23 (0, 0)), (b4, .cells (Qo (sH h.c h.p h.n)) 53 (0, 0))])))) ?_ ?_
 ·skip
  refine Z8 s21 (fun hc8 => ?_) (fun hc8 => ?_)
  ·
   refine Qa (sR ?_)
   refine Ya s0 <| Qd (Zh rfl) <| Qd (Zr (r := 97) X3 rfl Jr ti4 rfl rfl) <| Qd (Y8 4 uT4 rfl m7.h3 rfl) <| rN ?_
   refine Z8 rfl (fun hc9 => ?_) (fun hc9 => ?_)
   ·
    refine Qb <| Ya s0 <| Qd (Zr (r := 32) Ea rfl Jr U0 rfl s4) <| Qd (Y8 1 Fj rfl m7.h2 rfl) ?_
    have hF11 : Mem w7 R (([(bs, .cells (Qo (sS S vk)) 26 (0, 0))] ++ (Hk ++ ([]))) ++ ([(b6, .cells (cl u8 (List.replicate 32 0)) 23 (0, 0)), (b5, .cells (cl u8 f) 23 (0, 0)), (b4, .cells (Qo (sH h.c h.p h.n)) 53 (0, 0))])) := by
     have hT := (Mem.pick2 Hk [_, _, _] [_] _ (Mem.pick [_, _, _, _] Hk _ m7))
     try simp only [List.append_assoc, List.cons_append, List.nil_append, List.append_nil] at hT ⊢
     exact hT
    refine Vy (oc75 (Xm rfl rfl) (Qq0 bs S vk Hk h.p _ _ (Mem.give hF11) (hT.mono fun b o e => Mem.addRest hF11 e) gk sL sL sL)) ?_
    rintro _ w10 ⟨vqq12, Hqq12, rfl, gqq12, k_w10⟩
    have m10 : Mem w10 R ([(bs, .cells (Qo (sS (Ze S h.p) vqq12)) 26 (0, 0))] ++ (Hqq12 ++ ([(b6, .cells (cl u8 (List.replicate 32 0)) 23 (0, 0)), (b5, .cells (cl u8 f) 23 (0, 0)), (b4, .cells (Qo (sH h.c h.p h.n)) 53 (0, 0))]))) := ymA (Mem.back hF11 k_w10)
    refine Zz (i64 (Uc S h.p)) ?_
    refine rN (Qa (sR ?_))
    refine Zp (i64 (Uc S h.p)) <| Qd (Jw (b := 0) rfl rfl) <| rN ?_
    refine Z8 rfl (fun hc13 => ?_) (fun hc13 => ?_)
    ·
     have hc13p := bne_iff_ne.1 hc13
     refine sR <| Qd (Qp Xq rfl Zl s6 ((Mem.pick2 [_] Hqq12 [_] _ m10)).h0 Nj) <| Zp (i64 (Uc S h.p)) <| Vk (Qj (f := u8) (l := List.replicate 32 0) Qy Zl s6 rfl sL ((Mem.pick2 [_] Hqq12 [_] _ m10)).h0 Nj rfl) ?_
     rintro _ w14 uq14
     have m14 : Mem _ _ ([_, _] ++ (Hqq12 ++ ([_, _]))) := Mem.upd0 (Mem.pick2 [_] Hqq12 [_] _ m10) uq14
     refine Zz (i64 (Uc S h.p)) ?_
     refine rN (Xb ?_)
     refine Y3 (Y3 ?_)
     refine Qv [(agg u8 (List.replicate 32 0)), (i64 (Uc S h.p))] ⟨⟨_, s6, Xr Xq rfl Zl m14.h0 Nj⟩, rfl, trivial⟩ ?_
     have m15 := Mem.drop [_] _ m14
     have m16 := Mem.drop [_] _ (Mem.pick2 [_] Hqq12 [_] _ m15)
     have m17 := Mem.drop [_] _ (Mem.pick2 [_] Hqq12 [_] _ m16)
     obtain ⟨hr1, hr2, hr3⟩ := Qqf (f := f) (too_t hc8 hc9 (bne_iff_ne.1 hc13))
     rw [hr1, hr2, hr3]
     have hls := Qnm (Qb5 (bne_iff_ne.1 hc13))
     exact ⟨vqq12, Hqq12, by rw [Qc7 (Qb5 (bne_iff_ne.1 hc13))]; rfl, Yz.cast gqq12 (by rw [hls]), (by rw [hls] at m17; exact (by
      have hT := m17
      try simp only [List.append_assoc, List.cons_append, List.nil_append, List.append_nil] at hT ⊢
      exact hT))⟩
    ·
     have hc13p := X0 hc13
     refine Qs (Qc (Qb ?_))
     refine Ya s0 <| Qd (Zr (r := 0) Ea rfl Jr Zl rfl s4) <| Qd (Jv 0 Xq Zl rfl ((Mem.pick3 [_] Hqq12 [_, _] [_] _ m10)).h0 rfl) <| Qd (Qp Xq rfl Zl s5 ((Mem.pick3 [_] Hqq12 [_] [_] _ m10)).h0 Nj) ?_
     have hF19 : Mem w10 R (([(bs, .cells (Qo (sS (Ze S h.p) vqq12)) 26 (0, 0))]) ++ (Hqq12 ++ ([(b6, .cells (cl u8 (List.replicate 32 0)) 23 (0, 0)), (b5, .cells (cl u8 f) 23 (0, 0)), (b4, .cells (Qo (sH h.c h.p h.n)) 53 (0, 0))]))) := by
      have hT := m10
      try simp only [List.append_assoc, List.cons_append, List.nil_append, List.append_nil] at hT ⊢
      exact hT
     refine Vy (oc76 (D6 rfl rfl rfl) (Qqy bs (Ze S h.p) vqq12 h.c f _ _ (Mem.give hF19) (hT.mono fun b o e => Mem.addRest hF19 e) sL sL)) ?_
     rintro _ w18 k_w18
     have m18 : Mem w18 R ([(bs, .cells (Qo (sS ((Ze S h.p).renew h.c f) vqq12)) 26 (0, 0))] ++ (Hqq12 ++ ([(b6, .cells (cl u8 (List.replicate 32 0)) 23 (0, 0)), (b5, .cells (cl u8 f) 23 (0, 0)), (b4, .cells (Qo (sH h.c h.p h.n)) 53 (0, 0))]))) := ymA (Mem.back hF19 k_w18)
     refine rN ?_
     have hj0 := rch0_c hc8 hc9 (f := f)
     exact ⟨vqq12, Hqq12, (by rw [hj0]; exact gqq12), (too_c (X0 hc13)), s0, s1, s2, s4, s5, s6, (Eq.trans rfl (congrArg i64 (X0 hc13))), s21, (by rw [hj0]; exact (by
      have hT := m18
      try simp only [List.append_assoc, List.cons_append, List.nil_append, List.append_nil] at hT ⊢
      exact hT))⟩
   ·
    refine Qs (Qc (Qa (sR ?_)))
    refine Ya s7 <| Qd (x_neq 0 0) <| rN <| Yy rfl Jg ?_
    refine Qs (Qc (Qb ?_))
    refine Ya s0 <| Qd (Zr (r := 0) Ea rfl Jr Zl rfl s4) <| Qd (Jv 0 Xq Zl rfl m7.h2 rfl) <| Qd (Qp Xq rfl Zl s5 m7.h1 Nj) ?_
    have hF22 : Mem w7 R (([(bs, .cells (Qo (sS S vk)) 26 (0, 0))]) ++ ([(b6, .cells (cl u8 (List.replicate 32 0)) 23 (0, 0)), (b5, .cells (cl u8 f) 23 (0, 0)), (b4, .cells (Qo (sH h.c h.p h.n)) 53 (0, 0))] ++ (Hk ++ ([])))) := by
     have hT := (Mem.pick [_, _, _] [_] _ m7)
     try simp only [List.append_assoc, List.cons_append, List.nil_append, List.append_nil] at hT ⊢
     exact hT
    refine Vy (oc76 (D6 rfl rfl rfl) (Qqy bs S vk h.c f _ _ (Mem.give hF22) (hT.mono fun b o e => Mem.addRest hF22 e) sL sL)) ?_
    rintro _ w21 k_w21
    have m21 : Mem w21 R ([(bs, .cells (Qo (sS (S.renew h.c f) vk)) 26 (0, 0)), (b6, .cells (cl u8 (List.replicate 32 0)) 23 (0, 0)), (b5, .cells (cl u8 f) 23 (0, 0)), (b4, .cells (Qo (sH h.c h.p h.n)) 53 (0, 0))] ++ (Hk ++ ([]))) := ymA (Mem.back hF22 k_w21)
    refine rN ?_
    have hj0 := rch0_b hc8 hc9 (f := f)
    have m24 := (Mem.pick [_, _, _] [_] _ m21)
    have m25 := (Mem.pick [_, _, _] [_] _ m24)
    have m26 := (Mem.pick [_, _, _] [_] _ m25)
    have m27 := (Mem.pick [_, _, _, _] Hk _ m26)
    have m28 := (Mem.pick2 Hk [_, _, _] [_] _ m27)
    exact ⟨vk, Hk, (by rw [hj0]; exact gk), (too_b hc9), s0, s1, s2, s4, s5, s6, s7, s21, (by rw [hj0]; exact (by
     have hT := m28
     try simp only [List.append_assoc, List.cons_append, List.nil_append, List.append_nil] at hT ⊢
     exact hT))⟩
  ·
   refine Qs (Qc ?_)
   have hj0 := rch0_a hc8 (f := f)
   have m29 := (Mem.pick [_, _] [_] _ m7)
   have m30 := (Mem.pick [_, _] [_] _ m29)
   have m31 := (Mem.pick [_, _] [_] _ m30)
   have m32 := (Mem.pick [_, _, _, _] Hk _ m31)
   have m33 := (Mem.pick2 Hk [_, _, _] [_] _ m32)
   exact ⟨vk, Hk, (by rw [hj0]; exact gk), (too_a hc8), s0, s1, s2, s4, s5, s6, s7, s21, (by rw [hj0]; exact (by
    have hT := m33
    try simp only [List.append_assoc, List.cons_append, List.nil_append, List.append_nil] at hT ⊢
    exact hT))⟩
 rintro fr34 w35 ⟨vj, Hj, gj, htoo, s0, s1, s2, s4, s5, s6, s7, s21, m35⟩
 have hl2 := Qnl (Jz S h f) h.n h02.1 hhn.1 h02.2 hhn.2
 refine Qa (Qa ?_)
 refine Xl (dl 6) 6 Xw <| Yb rfl (Zr (r := 33) Ea rfl Jr U0 rfl s4) <| Yn rfl (fun _ e' => Y8 2 Fj rfl ((Mem.pick3 [_] Hj [_, _] [_] _ (m35.ext e'))).h0 rfl) <| Um rfl s0 <| Yb rfl (Zh rfl) <| Yb rfl (Zr (r := 163) X3 rfl Jr U0 rfl rfl) <| Yn rfl (fun _ e' => Y8 8 Fj rfl (m35.ext e').h0 rfl) <| Gs m35 fun w36 m36 => Qd (Z9 rfl rfl) <| rN ?_
 refine Z8 rfl (fun hc37 => ?_) (fun hc37 => ?_)
 ·
  have hc37p := of_decide_eq_true hc37
  refine sR <| Qd (Qp Xq rfl Zl s6 ((Mem.pick2 [_] Hj [_] _ m36)).h0 Nj) <| Vk (Qj (f := u8) (l := List.replicate 32 0) Qy Zl s6 rfl sL ((Mem.pick2 [_] Hj [_] _ m36)).h0 Nj rfl) ?_
  rintro _ w38 uq38
  have m38 : Mem _ _ ([_, _] ++ (Hj ++ ([_, _]))) := Mem.upd0 (Mem.pick2 [_] Hj [_] _ m36) uq38
  refine Zz (i64 11) ?_
  refine rN (Xb (Y3 ?_))
  refine Qv [(agg u8 (List.replicate 32 0)), (i64 11)] ⟨⟨_, s6, Xr Xq rfl Zl m38.h0 Nj⟩, rfl, trivial⟩ ?_
  have m39 := Mem.drop [_] _ m38
  have m40 := Mem.drop [_] _ (Mem.pick2 [_] Hj [_] _ m39)
  have m41 := Mem.drop [_] _ (Mem.pick2 [_] Hj [_] _ m40)
  obtain ⟨hr1, hr2, hr3⟩ := Qqg htoo hc37p
  rw [hr1, hr2, hr3]
  exact ⟨vj, Hj, rfl, Yz.cast gj rfl, (by
   have hT := m41
   try simp only [List.append_assoc, List.cons_append, List.nil_append, List.append_nil] at hT ⊢
   exact hT)⟩
 ·
  have hc37p := of_decide_eq_false hc37
  refine Qs (Qc (Qa (sR ?_)))
  refine Ya s0 <| Qd (Zr (r := 33) Ea rfl Jr U0 rfl s4) <| Qd (Y8 2 Fj rfl ((Mem.pick3 [_] Hj [_, _] [_] _ m36)).h0 rfl) ?_
  have hF43 : Mem w36 R (([(bs, .cells (Qo (sS (Jz S h f) vj)) 26 (0, 0))] ++ (Hj ++ ([]))) ++ ([(b6, .cells (cl u8 (List.replicate 32 0)) 23 (0, 0)), (b5, .cells (cl u8 f) 23 (0, 0)), (b4, .cells (Qo (sH h.c h.p h.n)) 53 (0, 0))])) := by
   have hT := (Mem.pick Hj [_] _ (Mem.pick [_] Hj _ m36))
   try simp only [List.append_assoc, List.cons_append, List.nil_append, List.append_nil] at hT ⊢
   exact hT
  refine Vy (oc75 (Xm rfl rfl) (Qq0 bs (Jz S h f) vj Hj h.n _ _ (Mem.give hF43) (hT.mono fun b o e => Mem.addRest hF43 e) gj sL sL sL)) ?_
  rintro _ w42 ⟨vqq44, Hqq44, rfl, gqq44, k_w42⟩
  have m42 : Mem w42 R ([(bs, .cells (Qo (sS (Ze (Jz S h f) h.n) vqq44)) 26 (0, 0))] ++ (Hqq44 ++ ([(b6, .cells (cl u8 (List.replicate 32 0)) 23 (0, 0)), (b5, .cells (cl u8 f) 23 (0, 0)), (b4, .cells (Qo (sH h.c h.p h.n)) 53 (0, 0))]))) := ymA (Mem.back hF43 k_w42)
  refine Zz (i64 (Uc (Jz S h f) h.n)) ?_
  refine rN (sR ?_)
  refine Zp (i64 (Uc (Jz S h f) h.n)) <| Qd (Jw (b := 0) rfl rfl) <| rN ?_
  refine Z8 rfl (fun hc45 => ?_) (fun hc45 => ?_)
  ·
   have hc45p := bne_iff_ne.1 hc45
   refine sR <| Qd (Qp Xq rfl Zl s6 ((Mem.pick2 [_] Hqq44 [_] _ m42)).h0 Nj) <| Zp (i64 (Uc (Jz S h f) h.n)) <| Vk (Qj (f := u8) (l := List.replicate 32 0) Qy Zl s6 rfl sL ((Mem.pick2 [_] Hqq44 [_] _ m42)).h0 Nj rfl) ?_
   rintro _ w46 uq46
   have m46 : Mem _ _ ([_, _] ++ (Hqq44 ++ ([_, _]))) := Mem.upd0 (Mem.pick2 [_] Hqq44 [_] _ m42) uq46
   refine Zz (i64 (Uc (Jz S h f) h.n)) ?_
   refine rN (Xb (Y3 ?_))
   refine Qv [(agg u8 (List.replicate 32 0)), (i64 (Uc (Jz S h f) h.n))] ⟨⟨_, s6, Xr Xq rfl Zl m46.h0 Nj⟩, rfl, trivial⟩ ?_
   have m47 := Mem.drop [_] _ m46
   have m48 := Mem.drop [_] _ (Mem.pick2 [_] Hqq44 [_] _ m47)
   have m49 := Mem.drop [_] _ (Mem.pick2 [_] Hqq44 [_] _ m48)
   obtain ⟨hr1, hr2, hr3⟩ := Qqh htoo hc37p (bne_iff_ne.1 hc45)
   rw [hr1, hr2, hr3]
   exact ⟨vqq44, Hqq44, rfl, Yz.cast gqq44 rfl, (by
    have hT := m49
    try simp only [List.append_assoc, List.cons_append, List.nil_append, List.append_nil] at hT ⊢
    exact hT)⟩
  ·
   have hc45p := X0 hc45
   refine Qs (Qc (sR ?_))
   refine Ya s0 <| Ya s0 <| Qd (Zh rfl) <| Qd (Zr (r := 130) X3 rfl Jr Zl rfl rfl) <| Qd (Jv 6 Xq Zl rfl m42.h0 rfl) <| U9 m42 (oc32 (Kt rfl) (Qpo _ _ (hT.mono fun b o e => (m42).rest b o e) sL)) fun w50 m50 => Ya rfl <| Qd (v := (agg u8 (Xk ((Ze (Jz S h f) h.n).t) [2#8]))) (Zm rfl rfl) <| Qd (v := (agg u8 (Xk ((Ze (Jz S h f) h.n).t) [1#8]))) (Zm rfl rfl) <| Qd (Zh rfl) <| Qd (Zr (r := 130) X3 rfl Jr Zl rfl rfl) <| Ye m50 (Uj 6 (sE ((Ze (Jz S h f) h.n).r) ((Ze (Jz S h f) h.n).w) ((Ze (Jz S h f) h.n).o) ((Ze (Jz S h f) h.n).sb) ((Ze (Jz S h f) h.n).tb) ((Ze (Jz S h f) h.n).s) (Xk ((Ze (Jz S h f) h.n).t) [2#8]) ((Ze (Jz S h f) h.n).n1) ((Ze (Jz S h f) h.n).n2) ((Ze (Jz S h f) h.n).n3) vqq44) Qy Zl rfl rfl m50.h0 rfl) fun w52 m52 => Vk (Qj (f := u8) (l := Xk ((Ze (Jz S h f) h.n).t) [1#8]) Qy Zl s6 rfl sL ((Mem.pick2 [_] Hqq44 [_] _ m52)).h0 Nj rfl) ?_
   rintro _ w53 uq53
   have m53 : Mem _ _ ([_, _] ++ (Hqq44 ++ ([_, _]))) := Mem.upd0 (Mem.pick2 [_] Hqq44 [_] _ m52) uq53
   refine rN (sR ?_)
   refine Ya s0 <| Qd (Zh rfl) <| Qd (Zr (r := 163) X3 rfl Jr U0 rfl rfl) <| Qd (Y8 8 Fj rfl m53.h1 rfl) <| Qd (Zg (b := 1) rfl rfl oM oM) <| Qd (Zh rfl) <| Qd (Zr (r := 163) X3 rfl Jr U0 rfl rfl) <| Vz m53 (Ui 8 (sE ((Ze (Jz S h f) h.n).r) ((Ze (Jz S h f) h.n).w) ((Ze (Jz S h f) h.n).o) ((Ze (Jz S h f) h.n).sb) ((Ze (Jz S h f) h.n).tb) ((Ze (Jz S h f) h.n).s) (Xk ((Ze (Jz S h f) h.n).t) [2#8]) ((Ze (Jz S h f) h.n).n1) (((Ze (Jz S h f) h.n).n2) + 1) ((Ze (Jz S h f) h.n).n3) vqq44) U0 rfl rfl (Z4 _) m53.h1 rfl rfl) fun w54 m54 => ?_
   refine rN (sR ?_)
   refine Qd (Qp Xq rfl Zl s6 m54.h0 Nj) <| Ye m54 (Qj (f := u8) (l := Xk ((Ze (Jz S h f) h.n).t) [1#8]) Qy Zl s6 rfl sL m54.h0 Nj rfl) fun w55 m55 => Zz (i64 0) ?_
   refine rN (Xb ?_)
   refine Qv [(agg u8 (Xk ((Ze (Jz S h f) h.n).t) [1#8])), (i64 0)] ⟨⟨_, s6, Xr Xq rfl Zl m55.h0 Nj⟩, rfl, trivial⟩ ?_
   have m56 := Mem.drop [_] _ m55
   have m57 := Mem.drop [_] _ (Mem.pick2 [_] Hqq44 [_] _ m56)
   have m58 := Mem.drop [_] _ (Mem.pick2 [_] Hqq44 [_] _ m57)
   obtain ⟨hr1, hr2, hr3⟩ := Qoj htoo hc37p (X0 hc45)
   rw [hr1, hr2, hr3]
   exact ⟨vqq44, Hqq44, rfl, Yz.cast gqq44 rfl, (by
    have hT := m58
    try simp only [List.append_assoc, List.cons_append, List.nil_append, List.append_nil] at hT ⊢
    exact hT)⟩
end Go.Proofs.YtkmiemlpfkfiiaaDoor
