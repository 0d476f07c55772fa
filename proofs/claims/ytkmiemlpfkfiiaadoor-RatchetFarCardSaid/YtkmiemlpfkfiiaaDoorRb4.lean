/- The ratchet: a session is brought to a header. Conditions: none beyond those that each theorem states. -/
import Derived.Test.YtkmiemlpfkfiiaaDoorRb3
namespace Go.Proofs.YtkmiemlpfkfiiaaDoor
open Tryd
set_option linter.unusedVariables false
set_option linter.unusedSimpArgs false
theorem Qmp (b : Zj) : 0 ≤ Va b := by unfold Va; omega
def Sn.renew (S : Sn) (c f : Zj) : Sn :=
 ⟨Ya (Ya S.r (Qi S.w c)) (Qi f c), Gf f, Gf c, true, true, Yq (Ya S.r (Qi S.w c)) (Qi f c), Yq S.r (Qi S.w c), 0, 0, S.n1, S.ks, Hy _ _, E5 _, E5 _, D9 _ _, D9 _ _⟩
def Sn.take1 (S : Sn) : Sn := ⟨S.r, S.w, S.o, S.sb, S.tb, S.s, Zu S.t [2#8], S.n1, S.n2 + 1, S.n3, S.ks, S.hr, S.hw, S.ho, S.hs, Jd _ _⟩
structure Hd where
 c : Zj
 p : Int
 n : Int
 hc : c.length = 32
def Qej (S : Sn) (h : Hd) : Bool := h.c != S.o || !S.tb
def Qa5 (S : Sn) (h : Hd) : Bool := Qej S h && (S.tb && Pn S h.p)
def Jl (S : Sn) (h : Hd) (f : Zj) : Sn := if Qej S h then (if S.tb then (Xw S h.p).renew h.c f else S.renew h.c f) else S
def Dz (S : Sn) (h : Hd) (f : Zj) : Int := if Qa5 S h then 12 else if h.n < (Jl S h f).n2 then 11 else if Pn (Jl S h f) h.n then 12 else 0
def Pi (S : Sn) (h : Hd) (f : Zj) : Sn := if Qa5 S h then S else if h.n < (Jl S h f).n2 then Jl S h f else if Pn (Jl S h f) h.n then Jl S h f else (Xw (Jl S h f) h.n).take1
def Ns (S : Sn) (h : Hd) (f : Zj) : Zj := if Dz S h f = 0 then Zu (Xw (Jl S h f) h.n).t [1#8] else List.replicate 32 0
theorem Qjv (S : Sn) (h : Hd) (f : Zj) : (Ns S h f).length = 32 := by unfold Ns; split; exact Jd _ _; rfl
theorem renew_eq {S : Sn} {c f : Zj} {v : Value} (hc : c.length = 32) (hf : f.length = 32) : sS (S.renew c f) v = sE (Ya (Ya S.r (Qi S.w c)) (Qi f c)) f c true true (Yq (Ya S.r (Qi S.w c)) (Qi f c)) (Yq S.r (Qi S.w c)) 0 0 S.n1 v := by
 show sE _ (Gf f) (Gf c) _ _ _ _ _ _ _ _ = _; rw [Ut hc, Ut hf]; rfl
theorem Qma (S : Sn) (k : Nat) : (S.trim k).n2 = S.n2 := rfl
theorem Qd1 (S : Sn) (n : Int) : Xw S n = S ∨ Xw S n = Qd0 S n := by unfold Xw; split; exact .inl rfl; exact .inr rfl
theorem leave_n2 (S : Sn) (n : Int) (h0 : 0 ≤ S.n2) (hn : 0 ≤ n) (h : S.n2 ≤ 2147483648) (h1 : n ≤ 2147483647) : 0 ≤ (Xw S n).n2 ∧ (Xw S n).n2 ≤ 2147483648 := by
 rcases Qd1 S n with e | e <;> rw [e]
 ·exact ⟨h0, h⟩
 unfold Qd0; rw [Qma, Qeq]; omega
theorem Qdj (S : Sn) (n : Int) : (Xw S n).ks.length ≤ S.ks.length + 2000 := by
 rcases Qd1 S n with e | e <;> rw [e]
 ·omega
 unfold Qd0; rw [← Qeo, List.length_drop]; omega
theorem rch0_n2 (S : Sn) (h : Hd) (f : Zj) (h0 : 0 ≤ S.n2 ∧ S.n2 ≤ 2147483648) : 0 ≤ (Jl S h f).n2 ∧ (Jl S h f).n2 ≤ 2147483648 := by
 unfold Jl; split
 ·split <;> exact ⟨Int.le_refl (0 : Int), (by show (0 : Int) ≤ 2147483648; decide)⟩
 exact h0
theorem Qjw (S : Sn) (h : Hd) (f : Zj) : (Jl S h f).ks.length ≤ S.ks.length + 2000 := by
 unfold Jl; split
 ·split
  ·exact Qdj S h.p
  show S.ks.length ≤ _; omega
 omega
theorem rchS_len (S : Sn) (h : Hd) (f : Zj) : (Pi S h f).ks.length ≤ S.ks.length + 4000 := by
 have h1 := Qjw S h f
 unfold Pi; split
 ·omega
 split
 ·omega
 split
 ·omega
 have h2 := Qdj (Jl S h f) h.n
 show (Xw (Jl S h f) h.n).ks.length ≤ _
 omega
theorem rch0_a {S : Sn} {h : Hd} {f : Zj} (h1 : Qej S h = false) : Jl S h f = S := by unfold Jl; rw [h1]; rfl
theorem rch0_b {S : Sn} {h : Hd} {f : Zj} (h1 : Qej S h = true) (h2 : S.tb = false) : Jl S h f = S.renew h.c f := by unfold Jl; rw [h1, h2]; rfl
theorem rch0_c {S : Sn} {h : Hd} {f : Zj} (h1 : Qej S h = true) (h2 : S.tb = true) : Jl S h f = (Xw S h.p).renew h.c f := by unfold Jl; rw [h1, h2]; rfl
theorem Qka {S : Sn} {n : Int} (h : Pn S n = false) : Wn S n = 0 := by unfold Wn; rw [h]; rfl
theorem Qg9 {S : Sn} {n : Int} (h : Wn S n = 0) : Pn S n = false := by
 cases e : Pn S n with
 | false => rfl
 | true => unfold Wn at h; rw [e] at h; exact absurd h Yh
theorem P9 {S : Sn} {n : Int} (h : Wn S n ≠ 0) : Pn S n = true := by
 cases e : Pn S n with
 | true => rfl
 | false => exact absurd (Qka e) h
theorem Qcn {S : Sn} {n : Int} (h : Pn S n = true) : Wn S n = 12 := by unfold Wn; rw [h]; rfl
theorem Qj9 {S : Sn} {n : Int} (h : Pn S n = true) : Xw S n = S := by unfold Xw; rw [h]; rfl
def D5 (b : Zj) : Bool := decide (40 ≤ b.length) && (decide (Va (b.drop 32) ≤ 2147483647) && decide (Va (b.drop 36) ≤ 2147483647))
def Kt (b : Zj) : Hd := if D5 b then ⟨Gf (b.take 32), Va (b.drop 32), Va (b.drop 36), E5 _⟩ else ⟨List.replicate 32 0, 0, 0, rfl⟩
def hdR (b : Zj) : Zj := if D5 b then b.drop 40 else []
def hdE (b : Zj) : Int := if D5 b then 0 else 3
theorem rch_too {S : Sn} {h : Hd} {f : Zj} (h1 : Qa5 S h = true) : Dz S h f = 12 ∧ Pi S h f = S ∧ Ns S h f = List.replicate 32 0 := by
 have e : Dz S h f = 12 := by unfold Dz; rw [h1]; rfl
 exact ⟨e, by unfold Pi; rw [h1]; rfl, by unfold Ns; rw [e]; rfl⟩
theorem rch_old {S : Sn} {h : Hd} {f : Zj} (h1 : Qa5 S h = false) (h2 : h.n < (Jl S h f).n2) : Dz S h f = 11 ∧ Pi S h f = Jl S h f ∧ Ns S h f = List.replicate 32 0 := by
 have e : Dz S h f = 11 := by unfold Dz; rw [h1, if_pos h2]; rfl
 exact ⟨e, by unfold Pi; rw [h1, if_pos h2]; rfl, by unfold Ns; rw [e]; rfl⟩
theorem Qmg {S : Sn} {h : Hd} {f : Zj} (h1 : Qa5 S h = false) (h2 : ¬ h.n < (Jl S h f).n2) (h3 : Wn (Jl S h f) h.n ≠ 0) : Dz S h f = Wn (Jl S h f) h.n ∧ Pi S h f = Xw (Jl S h f) h.n ∧ Ns S h f = List.replicate 32 0 := by
 have h4 := P9 h3
 have e : Dz S h f = 12 := by unfold Dz; rw [h1, if_neg h2, h4]; rfl
 exact ⟨e.trans (Qcn h4).symm, by rw [Qj9 h4]; unfold Pi; rw [h1, if_neg h2, h4]; rfl, by unfold Ns; rw [e]; rfl⟩
theorem rch_ok {S : Sn} {h : Hd} {f : Zj} (h1 : Qa5 S h = false) (h2 : ¬ h.n < (Jl S h f).n2) (h3 : Wn (Jl S h f) h.n = 0) : Dz S h f = 0 ∧ Pi S h f = (Xw (Jl S h f) h.n).take1 ∧ Ns S h f = Zu (Xw (Jl S h f) h.n).t [1#8] := by
 have h4 := Qg9 h3
 have e : Dz S h f = 0 := by unfold Dz; rw [h1, if_neg h2, h4]; rfl
 exact ⟨e, by unfold Pi; rw [h1, if_neg h2, h4]; rfl, by unfold Ns; rw [e]; rfl⟩
theorem too_a {S : Sn} {h : Hd} (h1 : Qej S h = false) : Qa5 S h = false := by unfold Qa5; rw [h1]; rfl
theorem too_b {S : Sn} {h : Hd} (h1 : S.tb = false) : Qa5 S h = false := by unfold Qa5; rw [h1]; exact Bool.and_false _
theorem too_c {S : Sn} {h : Hd} (h3 : Wn S h.p = 0) : Qa5 S h = false := by unfold Qa5; rw [Qg9 h3]; simp
theorem too_t {S : Sn} {h : Hd} (h1 : Qej S h = true) (h2 : S.tb = true) (h3 : Wn S h.p ≠ 0) : Qa5 S h = true := by unfold Qa5; rw [h1, h2, P9 h3]; rfl
attribute [local irreducible] Ak Va D7 Ya Yq Gy J9 Jz Ja Zu Wi Ko Qi Q7
set_option maxHeartbeats 2000000 in
theorem Qm4 (bs : Nat) (S : Sn) (vk : Value) (c f : Zj) (w0 : World) (R : Rest) (m0 : Mem w0 R [(bs, .cells (Qp (sS S vk)) 26 (0, 0))]) (hT : Tabs R.blk) (hcl : c.length = 32) (hfl : f.length = 32) : Xm prog 76 #[(ptr bs 0), (agg u8 c), (agg u8 f)] w0 (fun _ w1 => Mem w1 R [(bs, .cells (Qp (sS (S.renew c f) vk)) 26 (0, 0))]) := by
 refine Qy (args := [(ptr bs 0), (agg u8 c), (agg u8 f)]) func76 rfl ntmps76 results76 rfl ?_
 have hb0 := Hy S.r (Qi S.w c)
 have hb1 := D9 S.r (Qi S.w c)
 have hb2 := Hy (Ya S.r (Qi S.w c)) (Qi f c)
 have hb3 := D9 (Ya S.r (Qi S.w c)) (Qi f c)
 have hb4 := Jy S.w c
 have hb5 := Jy f c
 refine sR <| Y5 (Zw (f := u8) (l := c) m0 rfl) fun w1 b4 m1 => Y5 (Zw (f := u8) (l := f) m1 rfl) fun w2 b5 m2 => ?_
 refine rN (Qc ?_)
 refine Ju Xh <| Qjt [(0, false), (1, false), (2, false), (3, false), (4, false), (5, false), (6, false), (7, false), (8, false), (9, false), (10, false), (11, false), (12, false), (13, false), (14, false), (15, false), (16, false), (17, false), (18, true)] 19 [1, 15] rfl Xh <| Az rfl rfl rfl (fun _ _hx => Ye (v := (ptr bs 0)) rfl) <| db_f rfl rfl (fun _ => Ye (v := (ptr bs 0)) rfl) <| Az rfl rfl rfl (fun _ _hx => Ye (v := (ptr bs 0)) rfl) <| Az rfl rfl rfl (fun _ _hx => Qm rfl) <| Az rfl rfl rfl (fun _ _hx => Zd (r := 0) X6 rfl Yy Zi rfl rfl) <| Az rfl rfl rfl (fun _ _hx => Y8 0 Xf Zi rfl (m2.ext _hx).h2 rfl) <| Az rfl rfl rfl (fun _ _hx => Ye (v := (ptr bs 0)) rfl) <| Az rfl rfl rfl (fun _ _hx => Qm rfl) <| Az rfl rfl rfl (fun _ _hx => Zd (r := 32) X6 rfl Yy Zi rfl rfl) <| Az rfl rfl rfl (fun _ _hx => Y8 1 Xf Zi rfl (m2.ext _hx).h2 rfl) ?_
 refine Az rfl rfl rfl (fun _ _hx => Qw Xf rfl Zi rfl (m2.ext _hx).h1 N8) <| db_x (v := (agg u8 (Qi S.w c))) rfl rfl rfl (fun w3 e3 => oc57 (X3 rfl rfl) (Qex _ _ _ sL sL)) <| db_x (v := (Value.tuple #[(agg u8 (Ya S.r (Qi S.w c))), (agg u8 (Yq S.r (Qi S.w c)))])) rfl rfl rfl (fun w6 e6 => oc40 (X3 rfl rfl) (Qgc _ _ _ (hT.mono fun b o e => ((m2.ext e6)).rest b o e) sL sL)) <| Az rfl rfl rfl (fun _ _hx => Ye rfl) <| Az rfl rfl rfl (fun _ _hx => Zg rfl rfl) <| db_f rfl rfl (fun _ => Zg rfl rfl) <| Az rfl rfl rfl (fun _ _hx => Qm rfl) <| Az rfl rfl rfl (fun _ _hx => Zd (r := 0) X6 rfl Yy Zi rfl rfl) ?_
 refine db_n Xh rfl (fun w9 e9 => ?_)
 have m9 := m2.ext e9
 refine J8.mono (Dp 0 (sE (Ya S.r (Qi S.w c)) S.w S.o S.sb S.tb S.s S.t S.n1 S.n2 S.n3 vk) Q9 Zi rfl rfl m9.h2 rfl) ?_
 rintro _ w10 uq10
 have m10 := m9.upd2 uq10
 refine db_nil (fun w11 e11 => ?_)
 have m11 := m10.ext e11
 refine Qd (Qm rfl) <| Qd (Zd (r := 130) X6 rfl Yy Zi rfl rfl) <| Qc3 m11 (Dp 6 (sE (Ya S.r (Qi S.w c)) S.w S.o S.sb S.tb S.s (Yq S.r (Qi S.w c)) S.n1 S.n2 S.n3 vk) Q9 Zi rfl rfl m11.h2 rfl) fun w12 m12 => ?_
 refine rN (Qc ?_)
 refine Ju Xh <| Qjt [(0, false), (1, false), (2, false), (3, false), (4, false), (5, false), (6, false), (7, false), (8, false), (9, false), (10, false), (11, false), (12, false), (13, false), (14, false), (15, true)] 16 [1, 12] rfl Xh <| Az rfl rfl rfl (fun _ _hx => Ye (v := (ptr bs 0)) rfl) <| db_f rfl rfl (fun _ => Ye (v := (ptr bs 0)) rfl) <| Az rfl rfl rfl (fun _ _hx => Ye (v := (ptr bs 0)) rfl) <| Az rfl rfl rfl (fun _ _hx => Qm rfl) <| Az rfl rfl rfl (fun _ _hx => Zd (r := 0) X6 rfl Yy Zi rfl rfl) <| Az rfl rfl rfl (fun _ _hx => Y8 0 Xf Zi rfl (m12.ext _hx).h2 rfl) <| Az rfl rfl rfl (fun _ _hx => Qw Xf rfl Zi rfl (m12.ext _hx).h0 N8) <| Az rfl rfl rfl (fun _ _hx => Qw Xf rfl Zi rfl (m12.ext _hx).h1 N8) <| db_x (v := (agg u8 (Qi f c))) rfl rfl rfl (fun w13 e13 => oc57 (X3 rfl rfl) (Qex _ _ _ sL sL)) <| db_x (v := (Value.tuple #[(agg u8 (Ya (Ya S.r (Qi S.w c)) (Qi f c))), (agg u8 (Yq (Ya S.r (Qi S.w c)) (Qi f c)))])) rfl rfl rfl (fun w16 e16 => oc40 (X3 rfl rfl) (Qgc _ _ _ (hT.mono fun b o e => ((m12.ext e16)).rest b o e) sL sL)) ?_
 refine Az rfl rfl rfl (fun _ _hx => Ye rfl) <| Az rfl rfl rfl (fun _ _hx => Zg rfl rfl) <| db_f rfl rfl (fun _ => Zg rfl rfl) <| Az rfl rfl rfl (fun _ _hx => Qm rfl) <| Az rfl rfl rfl (fun _ _hx => Zd (r := 0) X6 rfl Yy Zi rfl rfl) ?_
 refine db_n Xh rfl (fun w19 e19 => ?_)
 have m19 := m12.ext e19
 refine J8.mono (Dp 0 (sE (Ya (Ya S.r (Qi S.w c)) (Qi f c)) S.w S.o S.sb S.tb S.s (Yq S.r (Qi S.w c)) S.n1 S.n2 S.n3 vk) Q9 Zi rfl rfl m19.h2 rfl) ?_
 rintro _ w20 uq20
 have m20 := m19.upd2 uq20
 refine db_nil (fun w21 e21 => ?_)
 have m21 := m20.ext e21
 refine Qd (Qm rfl) <| Qd (Zd (r := 98) X6 rfl Yy Zi rfl rfl) <| Qc3 m21 (Dp 5 (sE (Ya (Ya S.r (Qi S.w c)) (Qi f c)) S.w S.o S.sb S.tb (Yq (Ya S.r (Qi S.w c)) (Qi f c)) (Yq S.r (Qi S.w c)) S.n1 S.n2 S.n3 vk) Q9 Zi rfl rfl m21.h2 rfl) fun w22 m22 => ?_
 refine rN (Qc ?_)
 refine Ju Xh ?_
 have m23 := (Mem.pick [_] [_] _ m22)
 have m24 := (Mem.pick [_] [_] _ m23)
 have m25 := (Mem.pick [_, _] [_] _ m24)
 have hFM26 : Mem w22 R ([(bs, .cells (Qp (sE (Ya (Ya S.r (Qi S.w c)) (Qi f c)) S.w S.o S.sb S.tb (Yq (Ya S.r (Qi S.w c)) (Qi f c)) (Yq S.r (Qi S.w c)) S.n1 S.n2 S.n3 vk)) 26 (0, 0))] ++ [(b5, .cells (cl u8 f) 23 (0, 0)), (b4, .cells (cl u8 c) 23 (0, 0))]) := m25
 obtain ⟨RM26, hRM26⟩ : ∃ R2, R2 = Rest.add R [(b5, .cells (cl u8 f) 23 (0, 0)), (b4, .cells (cl u8 c) 23 (0, 0))] := ⟨_, rfl⟩
 have M260 : Mem w22 RM26 [(bs, .cells (Qp (sE (Ya (Ya S.r (Qi S.w c)) (Qi f c)) S.w S.o S.sb S.tb (Yq (Ya S.r (Qi S.w c)) (Qi f c)) (Yq S.r (Qi S.w c)) S.n1 S.n2 S.n3 vk)) 26 (0, 0))] := by rw [hRM26]; exact Mem.give hFM26
 have ho27 : RM26.blk b5 = some (.cells (cl u8 f) 23 (0, 0)) := by rw [hRM26]; exact Mem.addOwn hFM26 (List.Mem.head _)
 have ho28 : RM26.blk b4 = some (.cells (cl u8 c) 23 (0, 0)) := by rw [hRM26]; exact Mem.addOwn hFM26 (List.Mem.tail _ (List.Mem.head _))
 have hT29 : Tabs RM26.blk := by rw [hRM26]; exact Tabs.mono hT fun b o e => Mem.addRest hFM26 e
 refine Ea M260 [(0, false), (1, false), (2, false), (3, false), (4, false), (5, false), (6, false), (7, false), (8, true), (9, false), (10, false), (11, true), (12, false), (13, false), (14, true)] 15 rfl Xh <| L9 rfl (Ye (v := (ptr bs 0)) rfl) <| L9 rfl (Ye (v := (ptr bs 0)) rfl) <| L9 rfl (Ye (v := (ptr bs 0)) rfl) <| L9 rfl (Ye (v := (ptr bs 0)) rfl) <| yqH rfl (fun w _H _hx => Qw Xf rfl Zi rfl (_hx.rest _ _ ho27) N8) <| yqH rfl (fun w _H _hx => Qw Xf rfl Zi rfl (_hx.rest _ _ ho28) N8) <| L9 rfl (Qm rfl) <| L9 rfl (Zd (r := 32) X6 rfl Yy Zi rfl rfl) ?_
 refine dk_n rfl (fun w30 e30 => ?_)
 have m30 := M260.ext e30
 refine J8.mono (Dp 1 (sE (Ya (Ya S.r (Qi S.w c)) (Qi f c)) f S.o S.sb S.tb (Yq (Ya S.r (Qi S.w c)) (Qi f c)) (Yq S.r (Qi S.w c)) S.n1 S.n2 S.n3 vk) Q9 Zi rfl rfl m30.h0 rfl) ?_
 rintro _ w31 uq31
 have m31 := m30.upd0 uq31
 refine ⟨⟨_, m31⟩, ?_⟩
 refine L9 rfl (Qm rfl) <| L9 rfl (Zd (r := 64) X6 rfl Yy Zi rfl rfl) ?_
 refine dk_n rfl (fun w32 e32 => ?_)
 have m32 := m31.ext e32
 refine J8.mono (Dp 2 (sE (Ya (Ya S.r (Qi S.w c)) (Qi f c)) f c S.sb S.tb (Yq (Ya S.r (Qi S.w c)) (Qi f c)) (Yq S.r (Qi S.w c)) S.n1 S.n2 S.n3 vk) Q9 Zi rfl rfl m32.h0 rfl) ?_
 rintro _ w33 uq33
 have m33 := m32.upd0 uq33
 refine ⟨⟨_, m33⟩, ?_⟩
 refine L9 rfl (Qm rfl) <| L9 rfl (Zd (r := 96) X6 rfl Yy ti4 rfl rfl) ?_
 refine dk_n rfl (fun w34 e34 => ?_)
 have m34 := m33.ext e34
 refine J8.mono (Dn 3 (sE (Ya (Ya S.r (Qi S.w c)) (Qi f c)) f c true S.tb (Yq (Ya S.r (Qi S.w c)) (Qi f c)) (Yq S.r (Qi S.w c)) S.n1 S.n2 S.n3 vk) ti4 rfl rfl rfl m34.h0 rfl rfl) ?_
 rintro _ w35 uq35
 have m35 := m34.upd0 uq35
 refine ⟨⟨_, m35⟩, ?_⟩
 refine Ug m35 fun w36 m36 => ?_
 have hX37 := m36
 rw [hRM26] at hX37
 have m38 : Mem w36 R [(bs, .cells (Qp (sE (Ya (Ya S.r (Qi S.w c)) (Qi f c)) f c true S.tb (Yq (Ya S.r (Qi S.w c)) (Qi f c)) (Yq S.r (Qi S.w c)) S.n1 S.n2 S.n3 vk)) 26 (0, 0)), (b5, .cells (cl u8 f) 23 (0, 0)), (b4, .cells (cl u8 c) 23 (0, 0))] := ymA (Mem.back hFM26 hX37)
 refine Qd (Qm rfl) <| Qd (Zd (r := 97) X6 rfl Yy ti4 rfl rfl) <| Yb m38 (Dn 4 (sE (Ya (Ya S.r (Qi S.w c)) (Qi f c)) f c true true (Yq (Ya S.r (Qi S.w c)) (Qi f c)) (Yq S.r (Qi S.w c)) S.n1 S.n2 S.n3 vk) ti4 rfl rfl rfl m38.h0 rfl rfl) fun w39 m39 => ?_
 refine rN (Qb ?_)
 refine Zb (ptr bs 0) <| Zb (ptr bs 0) <| Zb (ptr bs 0) <| Zb (ptr bs 0) <| Qd (Qm rfl) <| Qd (Zd (r := 162) X6 rfl Yy Dj rfl rfl) <| Qd (Yp 7 Di rfl m39.h0 rfl) <| Qd (Qm rfl) <| Qd (Zd (r := 164) X6 rfl Yy Dj rfl rfl) <| Yb m39 (Dn 9 (sE (Ya (Ya S.r (Qi S.w c)) (Qi f c)) f c true true (Yq (Ya S.r (Qi S.w c)) (Qi f c)) (Yq S.r (Qi S.w c)) S.n1 S.n2 S.n1 vk) Dj rfl rfl (Jn _) m39.h0 rfl rfl) fun w40 m40 => Qd (Qm rfl) <| Qd (Zd (r := 162) X6 rfl Yy Dj rfl rfl) <| Yb m40 (Dn 7 (sE (Ya (Ya S.r (Qi S.w c)) (Qi f c)) f c true true (Yq (Ya S.r (Qi S.w c)) (Qi f c)) (Yq S.r (Qi S.w c)) 0 S.n2 S.n1 vk) Dj rfl rfl (Jn _) m40.h0 rfl rfl) fun w41 m41 => Qd (Qm rfl) <| Qd (Zd (r := 163) X6 rfl Yy Dj rfl rfl) <| Yb m41 (Dn 8 (sE (Ya (Ya S.r (Qi S.w c)) (Qi f c)) f c true true (Yq (Ya S.r (Qi S.w c)) (Qi f c)) (Yq S.r (Qi S.w c)) 0 0 S.n1 vk) Dj rfl rfl (Jn _) m41.h0 rfl rfl) fun w42 m42 => Zo <| Ec [] trivial ?_
 have m43 := Mem.drop [_] _ (Mem.pick [_] [_] _ m42)
 have m44 := Mem.drop [_] _ (Mem.pick [_] [_] _ m43)
 rw [renew_eq hcl hfl]
 exact m44
set_option maxHeartbeats 2000000 in
theorem c_reach (bs : Nat) (S : Sn) (vk : Value) (Hk : List (Nat × Obj)) (h : Hd) (f : Zj) (w0 : World) (R : Rest) (m0 : Mem w0 R ([(bs, .cells (Qp (sS S vk)) 26 (0, 0))] ++ (Hk ++ ([])))) (hT : Tabs R.blk) (gk : Yf Yz 65 69 vk S.ks Hk) (hfl : f.length = 32) (hhp : 0 ≤ h.p ∧ h.p ≤ 2147483647) (hhn : 0 ≤ h.n ∧ h.n ≤ 2147483647) (hn2 : 0 ≤ S.n2 ∧ S.n2 ≤ 2147483647) (hkl : S.ks.length ≤ 10000) : Xm prog 53 #[(ptr bs 0), (Value.agg (Qp (sH h.c h.p h.n))), (agg u8 f)] w0 (fun r w1 => ∃ vq Hq, r = Value.tuple #[(agg u8 (Ns S h f)), i64 (Dz S h f)] ∧ Yf Yz 65 69 vq (Pi S h f).ks Hq ∧ Mem w1 R ([(bs, .cells (Qp (sS (Pi S h f) vq)) 26 (0, 0))] ++ Hq)) := by
 refine Qy (args := [(ptr bs 0), (Value.agg (Qp (sH h.c h.p h.n))), (agg u8 f)]) func53 rfl ntmps53 results53 rfl ?_
 have hhc := h.hc
 have h02 := rch0_n2 S h f ⟨by omega, by omega⟩
 have h0l := Qjw S h f
 have hll := Qdj S h.p
 refine sR <| Y5 (Uk (cs := (Qp (sH h.c h.p h.n))) m0 rfl) fun w1 b4 m1 => Y5 (Zw (f := u8) (l := f) m1 rfl) fun w2 b5 m2 => Y5 (Zf m2 Zi) fun w3 b6 m3 => Zv (i64 0) ?_
 refine rN (Qc (Qc ?_))
 refine Qa2 (J := fun g wv => g 0 = (ptr bs 0) ∧ g 1 = (Value.agg (Qp (sH h.c h.p h.n))) ∧ g 2 = (agg u8 f) ∧ g 4 = (ptr b4 0) ∧ g 5 = (ptr b5 0) ∧ g 6 = (ptr b6 0) ∧ g 7 = (i64 0) ∧ g 21 = (bl (Qej S h)) ∧ Mem wv R ([(b6, .cells (cl u8 (List.replicate 32 0)) 23 (0, 0)), (b5, .cells (cl u8 f) 23 (0, 0)), (b4, .cells (Qp (sH h.c h.p h.n)) 53 (0, 0)), (bs, .cells (Qp (sS S vk)) 26 (0, 0))] ++ (Hk ++ ([])))) ?_ ?_
 ·skip
  refine Xj (dl 6) 6 Xh <| Xq rfl (Zd (r := 0) La rfl Yy Zi rfl rfl) <| Y6 rfl (fun _ e' => Y8 0 Xf Zi rfl (m3.ext e').h2 rfl) <| Jj rfl (ptr bs 0) <| Xq rfl (Qm rfl) <| Xq rfl (Zd (r := 64) X6 rfl Yy Zi rfl rfl) <| Y6 rfl (fun _ e' => Y8 2 Xf Zi rfl (m3.ext e').h3 rfl) <| Ug m3 fun w4 m4 => Qd (Fg (l := h.c) (m := S.o) Xf Uu Yw eqGuardType23 rfl rfl ysF ysF) <| Zb (bl (h.c != S.o)) ?_
  rcases Bool.eq_false_or_eq_true (h.c != S.o) with hb5 | hb5
  ·
   have hb5p := bne_iff_ne.1 hb5
   refine Na (s := 15) rfl rfl hb5 rfl <| Na (s := 15) rfl rfl hb5 rfl <| Na (s := 15) rfl rfl hb5 rfl <| Na (s := 15) rfl rfl hb5 rfl <| Na (s := 15) rfl rfl hb5 rfl <| Qd (V7 rfl hb5 rfl) <| rN ?_
   exact ⟨rfl, rfl, rfl, rfl, rfl, rfl, rfl, (Eq.trans rfl (congrArg bl (by unfold Qej; rw [hb5]; rfl))), m4⟩
  ·
   have hb5p := Xz hb5
   refine Zt (s := 15) rfl rfl hb5 rfl (Ye (v := (ptr bs 0)) rfl) <| Zt (s := 15) rfl rfl hb5 rfl (Qm rfl) <| Zt (s := 15) rfl rfl hb5 rfl (Zd (r := 97) X6 rfl Yy ti4 rfl rfl) <| Zt (s := 15) rfl rfl hb5 rfl (Yp 4 uT4 rfl m4.h3 rfl) <| Zt (s := 15) rfl rfl hb5 rfl (Qac rfl) <| Qd (Js rfl hb5 rfl) <| rN ?_
   exact ⟨rfl, rfl, rfl, rfl, rfl, rfl, rfl, (Eq.trans rfl (congrArg bl (by unfold Qej; rw [hb5]; rfl))), m4⟩
 rintro fr6 w7 ⟨s0, s1, s2, s4, s5, s6, s7, s21, m7⟩
 refine Qa2 (J := fun g wv => ∃ (vj : Value) (Hj : List (Nat × Obj)), (Yf Yz 65 69 vj (Jl S h f).ks Hj) ∧ (Qa5 S h = false) ∧ g 0 = (ptr bs 0) ∧ g 1 = (Value.agg (Qp (sH h.c h.p h.n))) ∧ g 2 = (agg u8 f) ∧ g 4 = (ptr b4 0) ∧ g 5 = (ptr b5 0) ∧ g 6 = (ptr b6 0) ∧ g 7 = (i64 0) ∧ g 21 = (bl (Qej S h)) ∧ Mem wv R ([(bs, .cells (Qp (sS (Jl S h f) vj)) 26 (0, 0))] ++ (Hj ++ ([(b6, .cells (cl u8 (List.replicate 32 0)) 23 (0, 0)), (b5, .cells (cl u8 f) 23 (0, 0)), (b4, .cells (Qp (sH h.c h.p h.n)) 53 (0, 0))])))) ?_ ?_
 ·skip
  refine Xb s21 (fun hc8 => ?_) (fun hc8 => ?_)
  ·
   refine Qc (sR ?_)
   refine Yk s0 <| Qd (Qm rfl) <| Qd (Zd (r := 97) X6 rfl Yy ti4 rfl rfl) <| Qd (Yp 4 uT4 rfl m7.h3 rfl) <| rN ?_
   refine Xb rfl (fun hc9 => ?_) (fun hc9 => ?_)
   ·
    refine Qb <| Yk s0 <| Qd (Zd (r := 32) La rfl Yy Dj rfl s4) <| Qd (Yp 1 Di rfl m7.h2 rfl) ?_
    have hF11 : Mem w7 R (([(bs, .cells (Qp (sS S vk)) 26 (0, 0))] ++ (Hk ++ ([]))) ++ ([(b6, .cells (cl u8 (List.replicate 32 0)) 23 (0, 0)), (b5, .cells (cl u8 f) 23 (0, 0)), (b4, .cells (Qp (sH h.c h.p h.n)) 53 (0, 0))])) := by
     have hT := (Mem.pick2 Hk [_, _, _] [_] _ (Mem.pick [_, _, _, _] Hk _ m7))
     try simp only [List.append_assoc, List.cons_append, List.nil_append, List.append_nil] at hT ⊢
     exact hT
    refine G5 (oc75 (X3 rfl rfl) (Qm5 bs S vk Hk h.p _ _ (Mem.give hF11) (hT.mono fun b o e => Mem.addRest hF11 e) gk sL sL sL)) ?_
    rintro _ w10 ⟨vqq12, Hqq12, rfl, gqq12, k_w10⟩
    have m10 : Mem w10 R ([(bs, .cells (Qp (sS (Xw S h.p) vqq12)) 26 (0, 0))] ++ (Hqq12 ++ ([(b6, .cells (cl u8 (List.replicate 32 0)) 23 (0, 0)), (b5, .cells (cl u8 f) 23 (0, 0)), (b4, .cells (Qp (sH h.c h.p h.n)) 53 (0, 0))]))) := ymA (Mem.back hF11 k_w10)
    refine Zv (i64 (Wn S h.p)) ?_
    refine rN (Qc (sR ?_))
    refine Zb (i64 (Wn S h.p)) <| Qd (Je (b := 0) rfl rfl) <| rN ?_
    refine Xb rfl (fun hc13 => ?_) (fun hc13 => ?_)
    ·
     have hc13p := bne_iff_ne.1 hc13
     refine sR <| Qd (Qw Xf rfl Zi s6 ((Mem.pick2 [_] Hqq12 [_] _ m10)).h0 N8) <| Zb (i64 (Wn S h.p)) <| Ve (Qq (f := u8) (l := List.replicate 32 0) Q9 Zi s6 rfl sL ((Mem.pick2 [_] Hqq12 [_] _ m10)).h0 N8 rfl) ?_
     rintro _ w14 uq14
     have m14 : Mem _ _ ([_, _] ++ (Hqq12 ++ ([_, _]))) := Mem.upd0 (Mem.pick2 [_] Hqq12 [_] _ m10) uq14
     refine Zv (i64 (Wn S h.p)) ?_
     refine rN (Zy ?_)
     refine Y7 (Y7 ?_)
     refine Qs [(agg u8 (List.replicate 32 0)), (i64 (Wn S h.p))] ⟨⟨_, s6, Xi Xf rfl Zi m14.h0 N8⟩, rfl, trivial⟩ ?_
     have m15 := Mem.drop [_] _ m14
     have m16 := Mem.drop [_] _ (Mem.pick2 [_] Hqq12 [_] _ m15)
     have m17 := Mem.drop [_] _ (Mem.pick2 [_] Hqq12 [_] _ m16)
     obtain ⟨hr1, hr2, hr3⟩ := rch_too (f := f) (too_t hc8 hc9 (bne_iff_ne.1 hc13))
     rw [hr1, hr2, hr3]
     have hls := Qj9 (P9 (bne_iff_ne.1 hc13))
     exact ⟨vqq12, Hqq12, by rw [Qcn (P9 (bne_iff_ne.1 hc13))]; rfl, Yf.cast gqq12 (by rw [hls]), (by rw [hls] at m17; exact (by
      have hT := m17
      try simp only [List.append_assoc, List.cons_append, List.nil_append, List.append_nil] at hT ⊢
      exact hT))⟩
    ·
     have hc13p := Xz hc13
     refine Qo (Qa (Qb ?_))
     refine Yk s0 <| Qd (Zd (r := 0) La rfl Yy Zi rfl s4) <| Qd (Y8 0 Xf Zi rfl ((Mem.pick3 [_] Hqq12 [_, _] [_] _ m10)).h0 rfl) <| Qd (Qw Xf rfl Zi s5 ((Mem.pick3 [_] Hqq12 [_] [_] _ m10)).h0 N8) ?_
     have hF19 : Mem w10 R (([(bs, .cells (Qp (sS (Xw S h.p) vqq12)) 26 (0, 0))]) ++ (Hqq12 ++ ([(b6, .cells (cl u8 (List.replicate 32 0)) 23 (0, 0)), (b5, .cells (cl u8 f) 23 (0, 0)), (b4, .cells (Qp (sH h.c h.p h.n)) 53 (0, 0))]))) := by
      have hT := m10
      try simp only [List.append_assoc, List.cons_append, List.nil_append, List.append_nil] at hT ⊢
      exact hT
     refine G5 (oc76 (U2 rfl rfl rfl) (Qm4 bs (Xw S h.p) vqq12 h.c f _ _ (Mem.give hF19) (hT.mono fun b o e => Mem.addRest hF19 e) sL sL)) ?_
     rintro _ w18 k_w18
     have m18 : Mem w18 R ([(bs, .cells (Qp (sS ((Xw S h.p).renew h.c f) vqq12)) 26 (0, 0))] ++ (Hqq12 ++ ([(b6, .cells (cl u8 (List.replicate 32 0)) 23 (0, 0)), (b5, .cells (cl u8 f) 23 (0, 0)), (b4, .cells (Qp (sH h.c h.p h.n)) 53 (0, 0))]))) := ymA (Mem.back hF19 k_w18)
     refine rN ?_
     have hj0 := rch0_c hc8 hc9 (f := f)
     exact ⟨vqq12, Hqq12, (by rw [hj0]; exact gqq12), (too_c (Xz hc13)), s0, s1, s2, s4, s5, s6, (Eq.trans rfl (congrArg i64 (Xz hc13))), s21, (by rw [hj0]; exact (by
      have hT := m18
      try simp only [List.append_assoc, List.cons_append, List.nil_append, List.append_nil] at hT ⊢
      exact hT))⟩
   ·
    refine Qo (Qa (Qc (sR ?_)))
    refine Yk s7 <| Qd (x_neq 0 0) <| rN <| Ym rfl Yh ?_
    refine Qo (Qa (Qb ?_))
    refine Yk s0 <| Qd (Zd (r := 0) La rfl Yy Zi rfl s4) <| Qd (Y8 0 Xf Zi rfl m7.h2 rfl) <| Qd (Qw Xf rfl Zi s5 m7.h1 N8) ?_
    have hF22 : Mem w7 R (([(bs, .cells (Qp (sS S vk)) 26 (0, 0))]) ++ ([(b6, .cells (cl u8 (List.replicate 32 0)) 23 (0, 0)), (b5, .cells (cl u8 f) 23 (0, 0)), (b4, .cells (Qp (sH h.c h.p h.n)) 53 (0, 0))] ++ (Hk ++ ([])))) := by
     have hT := (Mem.pick [_, _, _] [_] _ m7)
     try simp only [List.append_assoc, List.cons_append, List.nil_append, List.append_nil] at hT ⊢
     exact hT
    refine G5 (oc76 (U2 rfl rfl rfl) (Qm4 bs S vk h.c f _ _ (Mem.give hF22) (hT.mono fun b o e => Mem.addRest hF22 e) sL sL)) ?_
    rintro _ w21 k_w21
    have m21 : Mem w21 R ([(bs, .cells (Qp (sS (S.renew h.c f) vk)) 26 (0, 0)), (b6, .cells (cl u8 (List.replicate 32 0)) 23 (0, 0)), (b5, .cells (cl u8 f) 23 (0, 0)), (b4, .cells (Qp (sH h.c h.p h.n)) 53 (0, 0))] ++ (Hk ++ ([]))) := ymA (Mem.back hF22 k_w21)
    refine rN ?_
    have hj0 := rch0_b hc8 hc9 (f := f)
    have m24 := (Mem.pick [_, _, _] [_] _ m21)
    have m25 := (Mem.pick [_, _, _] [_] _ m24)
    have m26 := (Mem.pick [_, _, _] [_] _ m25)
    have m27 := (Mem.pick [_, _, _, _] Hk _ m26)
    have m28 := (Mem.pick2 Hk [_, _, _] [_] _ m27)
    exact ⟨vk, Hk, (by rw [hj0]; exact gk), (too_b hc9), s0, s1, s2, s4, s5, s6, s7, s21, (by rw [hj0]; exact (by
     have hT := m28
     try simp only [List.append_assoc, List.cons_append, List.nil_append, List.append_nil] at hT ⊢
     exact hT))⟩
  ·
   refine Qo (Qa ?_)
   have hj0 := rch0_a hc8 (f := f)
   have m29 := (Mem.pick [_, _] [_] _ m7)
   have m30 := (Mem.pick [_, _] [_] _ m29)
   have m31 := (Mem.pick [_, _] [_] _ m30)
   have m32 := (Mem.pick [_, _, _, _] Hk _ m31)
   have m33 := (Mem.pick2 Hk [_, _, _] [_] _ m32)
   exact ⟨vk, Hk, (by rw [hj0]; exact gk), (too_a hc8), s0, s1, s2, s4, s5, s6, s7, s21, (by rw [hj0]; exact (by
    have hT := m33
    try simp only [List.append_assoc, List.cons_append, List.nil_append, List.append_nil] at hT ⊢
    exact hT))⟩
 rintro fr34 w35 ⟨vj, Hj, gj, htoo, s0, s1, s2, s4, s5, s6, s7, s21, m35⟩
 have hl2 := leave_n2 (Jl S h f) h.n h02.1 hhn.1 h02.2 hhn.2
 refine Qc (Qc ?_)
 refine Xj (dl 6) 6 Xh <| Xq rfl (Zd (r := 33) La rfl Yy Dj rfl s4) <| Y6 rfl (fun _ e' => Yp 2 Di rfl ((Mem.pick3 [_] Hj [_, _] [_] _ (m35.ext e'))).h0 rfl) <| yqE rfl s0 <| Xq rfl (Qm rfl) <| Xq rfl (Zd (r := 163) X6 rfl Yy Dj rfl rfl) <| Y6 rfl (fun _ e' => Yp 8 Di rfl (m35.ext e').h0 rfl) <| Ug m35 fun w36 m36 => Qd (Xy rfl rfl) <| rN ?_
 refine Xb rfl (fun hc37 => ?_) (fun hc37 => ?_)
 ·
  have hc37p := of_decide_eq_true hc37
  refine sR <| Qd (Qw Xf rfl Zi s6 ((Mem.pick2 [_] Hj [_] _ m36)).h0 N8) <| Ve (Qq (f := u8) (l := List.replicate 32 0) Q9 Zi s6 rfl sL ((Mem.pick2 [_] Hj [_] _ m36)).h0 N8 rfl) ?_
  rintro _ w38 uq38
  have m38 : Mem _ _ ([_, _] ++ (Hj ++ ([_, _]))) := Mem.upd0 (Mem.pick2 [_] Hj [_] _ m36) uq38
  refine Zv (i64 11) ?_
  refine rN (Zy (Y7 ?_))
  refine Qs [(agg u8 (List.replicate 32 0)), (i64 11)] ⟨⟨_, s6, Xi Xf rfl Zi m38.h0 N8⟩, rfl, trivial⟩ ?_
  have m39 := Mem.drop [_] _ m38
  have m40 := Mem.drop [_] _ (Mem.pick2 [_] Hj [_] _ m39)
  have m41 := Mem.drop [_] _ (Mem.pick2 [_] Hj [_] _ m40)
  obtain ⟨hr1, hr2, hr3⟩ := rch_old htoo hc37p
  rw [hr1, hr2, hr3]
  exact ⟨vj, Hj, rfl, Yf.cast gj rfl, (by
   have hT := m41
   try simp only [List.append_assoc, List.cons_append, List.nil_append, List.append_nil] at hT ⊢
   exact hT)⟩
 ·
  have hc37p := of_decide_eq_false hc37
  refine Qo (Qa (Qc (sR ?_)))
  refine Yk s0 <| Qd (Zd (r := 33) La rfl Yy Dj rfl s4) <| Qd (Yp 2 Di rfl ((Mem.pick3 [_] Hj [_, _] [_] _ m36)).h0 rfl) ?_
  have hF43 : Mem w36 R (([(bs, .cells (Qp (sS (Jl S h f) vj)) 26 (0, 0))] ++ (Hj ++ ([]))) ++ ([(b6, .cells (cl u8 (List.replicate 32 0)) 23 (0, 0)), (b5, .cells (cl u8 f) 23 (0, 0)), (b4, .cells (Qp (sH h.c h.p h.n)) 53 (0, 0))])) := by
   have hT := (Mem.pick Hj [_] _ (Mem.pick [_] Hj _ m36))
   try simp only [List.append_assoc, List.cons_append, List.nil_append, List.append_nil] at hT ⊢
   exact hT
  refine G5 (oc75 (X3 rfl rfl) (Qm5 bs (Jl S h f) vj Hj h.n _ _ (Mem.give hF43) (hT.mono fun b o e => Mem.addRest hF43 e) gj sL sL sL)) ?_
  rintro _ w42 ⟨vqq44, Hqq44, rfl, gqq44, k_w42⟩
  have m42 : Mem w42 R ([(bs, .cells (Qp (sS (Xw (Jl S h f) h.n) vqq44)) 26 (0, 0))] ++ (Hqq44 ++ ([(b6, .cells (cl u8 (List.replicate 32 0)) 23 (0, 0)), (b5, .cells (cl u8 f) 23 (0, 0)), (b4, .cells (Qp (sH h.c h.p h.n)) 53 (0, 0))]))) := ymA (Mem.back hF43 k_w42)
  refine Zv (i64 (Wn (Jl S h f) h.n)) ?_
  refine rN (sR ?_)
  refine Zb (i64 (Wn (Jl S h f) h.n)) <| Qd (Je (b := 0) rfl rfl) <| rN ?_
  refine Xb rfl (fun hc45 => ?_) (fun hc45 => ?_)
  ·
   have hc45p := bne_iff_ne.1 hc45
   refine sR <| Qd (Qw Xf rfl Zi s6 ((Mem.pick2 [_] Hqq44 [_] _ m42)).h0 N8) <| Zb (i64 (Wn (Jl S h f) h.n)) <| Ve (Qq (f := u8) (l := List.replicate 32 0) Q9 Zi s6 rfl sL ((Mem.pick2 [_] Hqq44 [_] _ m42)).h0 N8 rfl) ?_
   rintro _ w46 uq46
   have m46 : Mem _ _ ([_, _] ++ (Hqq44 ++ ([_, _]))) := Mem.upd0 (Mem.pick2 [_] Hqq44 [_] _ m42) uq46
   refine Zv (i64 (Wn (Jl S h f) h.n)) ?_
   refine rN (Zy (Y7 ?_))
   refine Qs [(agg u8 (List.replicate 32 0)), (i64 (Wn (Jl S h f) h.n))] ⟨⟨_, s6, Xi Xf rfl Zi m46.h0 N8⟩, rfl, trivial⟩ ?_
   have m47 := Mem.drop [_] _ m46
   have m48 := Mem.drop [_] _ (Mem.pick2 [_] Hqq44 [_] _ m47)
   have m49 := Mem.drop [_] _ (Mem.pick2 [_] Hqq44 [_] _ m48)
   obtain ⟨hr1, hr2, hr3⟩ := Qmg htoo hc37p (bne_iff_ne.1 hc45)
   rw [hr1, hr2, hr3]
   exact ⟨vqq44, Hqq44, rfl, Yf.cast gqq44 rfl, (by
    have hT := m49
    try simp only [List.append_assoc, List.cons_append, List.nil_append, List.append_nil] at hT ⊢
    exact hT)⟩
  ·
   have hc45p := Xz hc45
   refine Qo (Qa (sR ?_))
   refine Yk s0 <| Yk s0 <| Qd (Qm rfl) <| Qd (Zd (r := 130) X6 rfl Yy Zi rfl rfl) <| Qd (Y8 6 Xf Zi rfl m42.h0 rfl) <| Dx m42 (oc32 (Jb rfl) (Qlw _ _ (hT.mono fun b o e => (m42).rest b o e) sL)) fun w50 m50 => Yk rfl <| Qd (v := (agg u8 (Zu ((Xw (Jl S h f) h.n).t) [2#8]))) (Zg rfl rfl) <| Qd (v := (agg u8 (Zu ((Xw (Jl S h f) h.n).t) [1#8]))) (Zg rfl rfl) <| Qd (Qm rfl) <| Qd (Zd (r := 130) X6 rfl Yy Zi rfl rfl) <| Yb m50 (Dp 6 (sE ((Xw (Jl S h f) h.n).r) ((Xw (Jl S h f) h.n).w) ((Xw (Jl S h f) h.n).o) ((Xw (Jl S h f) h.n).sb) ((Xw (Jl S h f) h.n).tb) ((Xw (Jl S h f) h.n).s) (Zu ((Xw (Jl S h f) h.n).t) [2#8]) ((Xw (Jl S h f) h.n).n1) ((Xw (Jl S h f) h.n).n2) ((Xw (Jl S h f) h.n).n3) vqq44) Q9 Zi rfl rfl m50.h0 rfl) fun w52 m52 => Ve (Qq (f := u8) (l := Zu ((Xw (Jl S h f) h.n).t) [1#8]) Q9 Zi s6 rfl sL ((Mem.pick2 [_] Hqq44 [_] _ m52)).h0 N8 rfl) ?_
   rintro _ w53 uq53
   have m53 : Mem _ _ ([_, _] ++ (Hqq44 ++ ([_, _]))) := Mem.upd0 (Mem.pick2 [_] Hqq44 [_] _ m52) uq53
   refine rN (sR ?_)
   refine Yk s0 <| Qd (Qm rfl) <| Qd (Zd (r := 163) X6 rfl Yy Dj rfl rfl) <| Qd (Yp 8 Di rfl m53.h1 rfl) <| Qd (Z9 (b := 1) rfl rfl oM oM) <| Qd (Qm rfl) <| Qd (Zd (r := 163) X6 rfl Yy Dj rfl rfl) <| Vq m53 (Dn 8 (sE ((Xw (Jl S h f) h.n).r) ((Xw (Jl S h f) h.n).w) ((Xw (Jl S h f) h.n).o) ((Xw (Jl S h f) h.n).sb) ((Xw (Jl S h f) h.n).tb) ((Xw (Jl S h f) h.n).s) (Zu ((Xw (Jl S h f) h.n).t) [2#8]) ((Xw (Jl S h f) h.n).n1) (((Xw (Jl S h f) h.n).n2) + 1) ((Xw (Jl S h f) h.n).n3) vqq44) Dj rfl rfl (Jn _) m53.h1 rfl rfl) fun w54 m54 => ?_
   refine rN (sR ?_)
   refine Qd (Qw Xf rfl Zi s6 m54.h0 N8) <| Yb m54 (Qq (f := u8) (l := Zu ((Xw (Jl S h f) h.n).t) [1#8]) Q9 Zi s6 rfl sL m54.h0 N8 rfl) fun w55 m55 => Zv (i64 0) ?_
   refine rN (Zy ?_)
   refine Qs [(agg u8 (Zu ((Xw (Jl S h f) h.n).t) [1#8])), (i64 0)] ⟨⟨_, s6, Xi Xf rfl Zi m55.h0 N8⟩, rfl, trivial⟩ ?_
   have m56 := Mem.drop [_] _ m55
   have m57 := Mem.drop [_] _ (Mem.pick2 [_] Hqq44 [_] _ m56)
   have m58 := Mem.drop [_] _ (Mem.pick2 [_] Hqq44 [_] _ m57)
   obtain ⟨hr1, hr2, hr3⟩ := rch_ok htoo hc37p (Xz hc45)
   rw [hr1, hr2, hr3]
   exact ⟨vqq44, Hqq44, rfl, Yf.cast gqq44 rfl, (by
    have hT := m58
    try simp only [List.append_assoc, List.cons_append, List.nil_append, List.append_nil] at hT ⊢
    exact hT)⟩
end Go.Proofs.YtkmiemlpfkfiiaaDoor
