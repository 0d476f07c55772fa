/- The ratchet: what is deciphered (the code). Conditions: none beyond those that each theorem states. -/
import Derived.Test.YtkmiemlpfkfiiaaDoorRb6
namespace Go.Proofs.YtkmiemlpfkfiiaaDoor
open Tryd
set_option linter.unusedVariables false
set_option linter.unusedSimpArgs false
def Ee (S : Sn) (s : Zj) : Int := Wv S.ks (Kt s).c (Kt s).n
def Qaj (S : Sn) (s f : Zj) : Int := if D5 s then (if 0 ≤ Ee S s then 0 else Dz S (Kt s) f) else 3
def Cf (S : Sn) (s f : Zj) : Zj := if 0 ≤ Ee S s then (S.ks.getD (Ee S s).toNat Ep).k else Ns S (Kt s) f
def Sn.cutK (S : Sn) (i : Nat) : Sn := ⟨S.r, S.w, S.o, S.sb, S.tb, S.s, S.t, S.n1, S.n2, S.n3, S.ks.take i ++ S.ks.drop (i + 1), S.hr, S.hw, S.ho, S.hs, S.ht⟩
def Pm (S : Sn) (s f : Zj) : Sn := if 0 ≤ Ee S s then S.cutK (Ee S s).toNat else Pi S (Kt s) f
def Qfo (k b s : Zj) : Int := Qba k (List.replicate 12 0) (b ++ s.take 40) (s.drop 40)
def opnP (k b s : Zj) : Zj := Rz k (List.replicate 12 0) (b ++ s.take 40) (s.drop 40)
def Gz (S : Sn) (b s f : Zj) : Int := if Qaj S s f = 0 then Qfo (Cf S s f) b s else Qaj S s f
def Ls (S : Sn) (b s f : Zj) : Zj := if Gz S b s f = 0 then opnP (Cf S s f) b s else []
def F5 (S : Sn) (b s f : Zj) : Sn := if Gz S b s f = 0 then Pm S s f else S
def Qem (S : Sn) (b s f : Zj) : List Kp := if Gz S b s f = 0 then (Pm S s f).ks else []
section
variable {S : Sn} {b s f : Zj}
theorem Qiz (h : Gz S b s f ≠ 0) : F5 S b s f = S ∧ Ls S b s f = [] ∧ Qem S b s f = [] := by
 refine ⟨?_, ?_, ?_⟩
 ·unfold F5; rw [if_neg h]
 ·unfold Ls; rw [if_neg h]
 unfold Qem; rw [if_neg h]
theorem Qkt (h : Gz S b s f = 0) : F5 S b s f = Pm S s f ∧ Ls S b s f = opnP (Cf S s f) b s ∧ Qem S b s f = (Pm S s f).ks := by
 refine ⟨?_, ?_, ?_⟩
 ·unfold F5; rw [if_pos h]
 ·unfold Ls; rw [if_pos h]
 unfold Qem; rw [if_pos h]
theorem dec1_hd (h : D5 s = false) : Qaj S s f = 3 := by unfold Qaj; rw [h]; rfl
theorem Qmy (h : D5 s = true) (h1 : 0 ≤ Ee S s) : Qaj S s f = 0 := by unfold Qaj; rw [h, if_pos h1]; rfl
theorem Qcx (h : D5 s = true) (h1 : ¬ 0 ≤ Ee S s) : Qaj S s f = Dz S (Kt s) f := by unfold Qaj; rw [h, if_neg h1]; rfl
theorem decE_1 (h : Qaj S s f ≠ 0) : Gz S b s f = Qaj S s f := by unfold Gz; rw [if_neg h]
theorem Qi0 (h : Qaj S s f = 0) : Gz S b s f = Qfo (Cf S s f) b s := by unfold Gz; rw [if_pos h]
theorem Qmn (h1 : 0 ≤ Ee S s) : Cf S s f = (S.ks.getD (Ee S s).toNat Ep).k := by unfold Cf; rw [if_pos h1]
theorem Qkc (h1 : ¬ 0 ≤ Ee S s) : Cf S s f = Ns S (Kt s) f := by unfold Cf; rw [if_neg h1]
theorem keyA_len : (Cf S s f).length = 32 := by unfold Cf; split; exact Kp.hk _; exact Qjv _ _ _
theorem mid_in (h1 : 0 ≤ Ee S s) : Pm S s f = S.cutK (Ee S s).toNat := by unfold Pm; rw [if_pos h1]
theorem Qml (h1 : ¬ 0 ≤ Ee S s) : Pm S s f = Pi S (Kt s) f := by unfold Pm; rw [if_neg h1]
theorem mid_len : (Pm S s f).ks.length ≤ S.ks.length + 4000 := by
 unfold Pm; split
 ·show (S.ks.take _ ++ S.ks.drop _).length ≤ _
  rw [List.length_append, List.length_take, List.length_drop]; omega
 exact rchS_len _ _ _
theorem out_1 {e : Int} (h : Qaj S s f = e) (hz : e ≠ 0) : Gz S b s f = e ∧ F5 S b s f = S ∧ Ls S b s f = [] ∧ Qem S b s f = [] := by
 have h1 : Gz S b s f = e := by rw [decE_1 (by rw [h]; exact hz), h]
 exact ⟨h1, Qiz (by rw [h1]; exact hz)⟩
theorem out_2 (h : Qaj S s f = 0) (hz : Qfo (Cf S s f) b s ≠ 0) : Gz S b s f = Qfo (Cf S s f) b s ∧ F5 S b s f = S ∧ Ls S b s f = [] ∧ Qem S b s f = [] := by
 have h1 := Qi0 (b := b) h
 exact ⟨h1, Qiz (by rw [h1]; exact hz)⟩
theorem out_3 (h : Qaj S s f = 0) (hz : Qfo (Cf S s f) b s = 0) : Gz S b s f = 0 ∧ F5 S b s f = Pm S s f ∧ Ls S b s f = opnP (Cf S s f) b s ∧ Qem S b s f = (Pm S s f).ks := by
 have h1 := (Qi0 (b := b) h).trans hz
 exact ⟨h1, Qkt h1⟩
end
theorem RdK.ite {α : Type} {enc : α → List Value} {k : Nat} {m : Nat → Option Obj} {p : Prop} [Decidable p] {u v : Value} {l : List α} (h1 : p → RdK m enc k u l) (h2 : ¬ p → RdK m enc k v l) : RdK m enc k (if p then u else v) l := by
 split
 ·exact h1 ‹_›
 exact h2 ‹_›
theorem hdE_0 {b : Zj} (h : hdE b = 0) : D5 b = true := by
 cases e : D5 b with
 | true => rfl
 | false => rw [(hd_no e).2.1] at h; exact absurd h Yh
theorem hdE_3 {b : Zj} (h : hdE b ≠ 0) : D5 b = false ∧ hdE b = 3 := by
 cases e : D5 b with
 | false => exact ⟨rfl, (hd_no e).2.1⟩
 | true => exact absurd (Qfw e).2.1 h
theorem Rn {S : Sn} {b s f : Zj} (h : Gz S b s f = 0) : Qem S b s f = (F5 S b s f).ks := by rw [(Qkt h).1, (Qkt h).2.2]
theorem Ro {S : Sn} {b s f : Zj} (h : Gz S b s f ≠ 0) : S.ks = (F5 S b s f).ks := by rw [(Qiz h).1]
theorem cut_ks (S : Sn) (i : Nat) : (S.cutK i).ks = S.ks.take i ++ S.ks.drop (i + 1) := rfl
attribute [local irreducible] Ak Va D7 Ya Yq Gy J9 Jz Ja Zu Wi Ko Qi Q7 Gf D5 Kt hdR hdE Wv Qba Rz Dz Pi Ns Jl
set_option maxHeartbeats 2000000 in
theorem Qi9 (S : Sn) (vk : Value) (vb : Value) (lb : Zj) (vs : Value) (ls : Zj) (f : Zj) (w0 : World)  (hT : Tabs (Yn w0)) (hk : RdK (Yn w0) Yz 65 vk S.ks) (hrb : Rd (Yn w0) u8 vb lb) (hlb : lb.length ≤ 90000) (hrs : Rd (Yn w0) u8 vs ls) (hls : ls.length ≤ 90000) (hfl : f.length = 32) (hn2 : 0 ≤ S.n2 ∧ S.n2 ≤ 2147483647) (hkl : S.ks.length ≤ 5000) : Xm prog 25 #[(Value.agg (Qp (sS S vk))), vb, vs, (agg u8 f)] w0 (fun r w1 => ∃ vq Hq vp Hp, r = Value.tuple #[(Value.agg (Qp (sS (F5 S lb ls f) (if Gz S lb ls f = 0 then vq else vk)))), vp, i64 (Gz S lb ls f)] ∧ Yf Yz 65 69 vq (Qem S lb ls f) Hq ∧ Xl u8 5 vp (Ls S lb ls f) Hp ∧ Mem w1 (Qu w0) (Hq ++ Hp)) := by
 refine Qy (args := [(Value.agg (Qp (sS S vk))), vb, vs, (agg u8 f)]) func25 rfl ntmps25 results25 rfl ?_
 have m0 : Mem w0 (Qu w0) [] := Mem.of_world w0
 have hhc := (Kt ls).hc
 have hkal := keyA_len (S := S) (s := ls) (f := f)
 have hmll := mid_len (S := S) (s := ls) (f := f)
 have hrkl := Qjv S (Kt ls) f
 refine sR <| Y5 (Uk (cs := (Qp (sS S vk))) m0 rfl) fun w1 b4 m1 => Y5 (Zw (f := u8) (l := f) m1 rfl) fun w2 b7 m2 => Y5 (Yu m2 Jo) fun w3 b8 m3 => Zv Jp <| Zv (i64 0) ?_
 refine rN (sR ?_)
 refine Zb vs <| G5 (oc23 (Jb rfl) (c_head19 vs ls _ (Rd.ofRest hrs m3) sL)) ?_
 rintro _ w4 ⟨vrq5, Hrq5, rfl, grq5, k_w4⟩
 have m4 : Mem _ _ (Hrq5 ++ ([_, _, _])) := Mem.new (H := [_, _, _]) (H' := Hrq5) m3 k_w4
 refine Yk rfl <| Qd (v := (Value.agg (Qp (sH ((Kt ls).c) ((Kt ls).p) ((Kt ls).n))))) (Zg rfl rfl) <| Qd (v := vrq5) (Zg rfl rfl) <| Qd (v := (i64 (hdE ls))) (Zg rfl rfl) <| Y5 (Yu m4 Qa6) fun w6 b11 m6 => Yb m6 (Jw Qa6 rfl rfl m6.h0 (Xt (Yj Q9 _) (Xt (Zz (Jn _) Jm) (Xt (Zz (Jn _) Jm) Ui)))) fun w7 m7 => Zv vrq5 <| Zv (i64 (hdE ls)) ?_
 refine rN (Qc (sR ?_))
 refine Zb (i64 (hdE ls)) <| Qd (Je (b := 0) rfl rfl) <| rN ?_
 refine Xb rfl (fun hc8 => ?_) (fun hc8 => ?_)
 ·
  have hc8p := bne_iff_ne.1 hc8
  refine sR <| Qd (Jt X6 Jo rfl ((Mem.pick3 [_] Hrq5 [_, _] [_] _ m7)).h0) <| Zb (i64 (hdE ls)) <| Ve (Jw Jo rfl rfl ((Mem.pick2 [_] Hrq5 [_] _ m7)).h0 (Us (RdK.one (RdK.ofRest hk m7)))) ?_
  rintro _ w9 uq9
  have m9 : Mem _ _ ([_, _] ++ (Hrq5 ++ ([_, _]))) := Mem.upd0 (Mem.pick2 [_] Hrq5 [_] _ m7) uq9
  refine Zv Jp <| Zv (i64 (hdE ls)) ?_
  refine rN (Zy (Y7 ?_))
  refine Qs [(Value.agg (Qp (sS S vk))), Jp, (i64 (hdE ls))] ⟨⟨_, rfl, Ku X6 Jo m9.h0⟩, rfl, rfl, trivial⟩ ?_
  have m10 := Mem.drop [_] _ m9
  have m11 := Mem.drop [_] _ m10
  have m12 := Mem.drop Hrq5 _ m11
  have m13 := Mem.drop [_] _ m12
  have m14 := Mem.drop [_] _ m13
  obtain ⟨ho1, ho2, ho3, ho4⟩ := out_1 (b := lb) (dec1_hd (f := f) (S := S) (hdE_3 (bne_iff_ne.1 hc8)).1) Yh
  rw [ho1, ho2, ho3, ho4]
  exact ⟨Value.slice none 0 0, [], Value.slice none 0 0, [], by rw [if_neg Yh]; rw [(hdE_3 (bne_iff_ne.1 hc8)).2]; rfl, Yf.none Yz 65 69, Xl.none u8 5, by simpa using m14⟩
 ·
  have hc8p := Xz hc8
  have hok := hdE_0 (Xz hc8)
  obtain ⟨hl40, hhp, hhn⟩ := hd_of hok
  have hrr := (Qfw hok).2.2
  have hrl : (hdR ls).length = ls.length - 40 := by rw [hrr, List.length_drop]
  refine Qo (Qa (sR ?_))
  refine Qd (Jt X6 Jo rfl ((Mem.pick3 [_] Hrq5 [_, _] [_] _ m7)).h0) <| Ve (Jw Jo rfl rfl ((Mem.pick2 [_] Hrq5 [_] _ m7)).h0 (Us (RdK.one (RdK.ofRest hk m7)))) ?_
  rintro _ w15 uq15
  have m15 : Mem _ _ ([_, _] ++ (Hrq5 ++ ([_, _]))) := Mem.upd0 (Mem.pick2 [_] Hrq5 [_] _ m7) uq15
  refine rN (sR ?_)
  refine Qd (Zd (r := 165) X6 rfl Yy Ah rfl rfl) <| Qd (Yp 10 Gt rfl ((Mem.pick3 [_, _] Hrq5 [_] [_] _ m15)).h0 rfl) <| G5 (oc29 (Jb rfl) (Qky vk S.ks _ (RdK.ofRest hk m15) sL)) ?_
  rintro rq17 w16 ⟨Hsq17, grq17, k_w16⟩
  have m16 : Mem _ _ (Hsq17 ++ ([_, _] ++ (Hrq5 ++ ([_, _])))) := Mem.new (H := [_, _] ++ (Hrq5 ++ ([_, _]))) (H' := Hsq17) m15 k_w16
  refine Qd (Zd (r := 165) X6 rfl Yy Ah rfl rfl) <| Ve (Dn 10 (sS S rq17) Ah rfl rfl grq17.one ((Mem.pick Hsq17 [_] _ m16)).h0 rfl rfl) ?_
  rintro _ w18 uq18
  have m18 : Mem _ _ ([_] ++ (Hsq17 ++ ([_] ++ (Hrq5 ++ ([_, _]))))) := Mem.upd0 (Mem.pick Hsq17 [_] _ m16) uq18
  refine rN (sR ?_)
  refine Qd (Zd (r := 165) X6 rfl Yy Ah rfl rfl) <| Qd (Yp 10 Gt rfl m18.h0 rfl) <| Qd (Qd7 (Jb rfl)) <| Dx m18 (oc50 (X3 rfl rfl) (c_findK rq17 S.ks b11 ((Kt ls).c) ((Kt ls).p) ((Kt ls).n) _ (grq17.rd (Mem.pick [_] Hsq17 _ m18)) sL ((Mem.pick2 [_] Hsq17 [_] _ m18)).h0 sL)) fun w19 m19 => Zv (i64 (Wv S.ks ((Kt ls).c) ((Kt ls).n))) ?_
  refine rN (sR ?_)
  refine Y5 (Zf m19 Zi) fun w21 b14 m21 => ?_
  refine rN (Qc (sR ?_))
  refine Zb (i64 (Wv S.ks ((Kt ls).c) ((Kt ls).n))) <| Qd (Eu (b := 0) rfl rfl) <| rN ?_
  refine Qa2 (J := fun g wv => ∃ (vj : Value) (Hj : List (Nat × Obj)), (Yf Yz 65 69 vj (Pm S ls f).ks Hj) ∧ (Qaj S ls f = 0) ∧ g 0 = (Value.agg (Qp (sS S vk))) ∧ g 1 = vb ∧ g 2 = vs ∧ g 3 = (agg u8 f) ∧ g 4 = (ptr b4 0) ∧ g 7 = (ptr b7 0) ∧ g 8 = (ptr b8 0) ∧ g 10 = (i64 0) ∧ g 11 = (ptr b11 0) ∧ g 12 = vrq5 ∧ g 13 = (i64 (Wv S.ks ((Kt ls).c) ((Kt ls).n))) ∧ g 14 = (ptr b14 0) ∧ g 22 = (bl ((hdE ls) != 0)) ∧ g 35 = (bl (decide (0 ≤ (Wv S.ks ((Kt ls).c) ((Kt ls).n))))) ∧ Mem wv (Qu w0) ([(b8, .cells (Qp (sS (Pm S ls f) vj)) 26 (0, 0))] ++ (Hj ++ ([(b14, .cells (cl u8 (Cf S ls f)) 23 (0, 0)), (b11, .cells (Qp (sH ((Kt ls).c) ((Kt ls).p) ((Kt ls).n))) 53 (0, 0))] ++ (Hrq5 ++ ([(b7, .cells (cl u8 f) 23 (0, 0)), (b4, .cells (Qp (sS S vk)) 26 (0, 0))])))))) ?_ ?_
  ·skip
   refine Xb rfl (fun hc22 => ?_) (fun hc22 => ?_)
   ·
    have hc22p := of_decide_eq_true hc22
    have hin : 0 ≤ Ee S ls := hc22p
    obtain ⟨i, hi1, hi2⟩ : ∃ i : Nat, Wv S.ks (Kt ls).c (Kt ls).n = i ∧ i < S.ks.length := (find_ge).resolve_left oM
    have hkk := (S.ks.getD (Wv S.ks (Kt ls).c (Kt ls).n).toNat Ep).hk
    refine sR <| Qd (Zd (r := 165) X6 rfl Yy Ah rfl rfl) <| Qd (Yp 10 Gt rfl m21.h1 rfl) <| Zb (i64 (Wv S.ks ((Kt ls).c) ((Kt ls).n))) <| Qd (Wx (i := Wv S.ks ((Kt ls).c) ((Kt ls).n)) (grq17.rd (Mem.pick [_, _] Hsq17 _ m21)) Gt Np rfl rfl oM sL) <| Qd (ev_fa_rk (i := Wv S.ks ((Kt ls).c) ((Kt ls).n)) (grq17.rd (Mem.pick [_, _] Hsq17 _ m21)) sL Qe4 rfl Yy Zi rfl rfl) <| Qd (v := (agg u8 ((S.ks.getD ((Wv S.ks ((Kt ls).c) ((Kt ls).n) : Int).toNat) Ep).k))) (Af (i := Wv S.ks ((Kt ls).c) ((Kt ls).n)) (dflt := Ep) (cs := (cl u8 ((S.ks.getD ((Wv S.ks ((Kt ls).c) ((Kt ls).n) : Int).toNat) Ep).k))) (grq17.rd (Mem.pick [_, _] Hsq17 _ m21)) sL Xf rfl Zi rfl rfl Yh (kp_k (S.ks.getD ((Wv S.ks ((Kt ls).c) ((Kt ls).n) : Int).toNat) Ep))) <| Yb m21 (Qq (f := u8) (l := (S.ks.getD ((Wv S.ks ((Kt ls).c) ((Kt ls).n) : Int).toNat) Ep).k) Q9 Zi rfl rfl sL m21.h0 N8 rfl) fun w23 m23 => ?_
    refine rN (Qb ?_)
    refine Qd (Zd (r := 165) X6 rfl Yy Ah rfl rfl) <| Qd (Yp 10 Gt rfl m23.h1 rfl) <| Zb (i64 (Wv S.ks ((Kt ls).c) ((Kt ls).n))) <| Zb (i64 (Wv S.ks ((Kt ls).c) ((Kt ls).n))) <| Qd (Z9 (b := 1) rfl rfl oM oM) ?_
    have hF25 : Mem w23 (Qu w0) ((Hsq17 ++ ([])) ++ ([(b14, .cells (cl u8 ((S.ks.getD ((Wv S.ks ((Kt ls).c) ((Kt ls).n) : Int).toNat) Ep).k)) 23 (0, 0)), (b8, .cells (Qp (sS S rq17)) 26 (0, 0)), (b11, .cells (Qp (sH ((Kt ls).c) ((Kt ls).p) ((Kt ls).n))) 53 (0, 0))] ++ (Hrq5 ++ ([(b7, .cells (cl u8 f) 23 (0, 0)), (b4, .cells (Qp (sS S vk)) 26 (0, 0))])))) := by
     have hT := (Mem.pick [_, _] Hsq17 _ m23)
     try simp only [List.append_assoc, List.cons_append, List.nil_append, List.append_nil] at hT ⊢
     exact hT
    refine G5 (oc52 (U2 rfl rfl rfl) (c_delK rq17 S.ks Hsq17 (Wv S.ks ((Kt ls).c) ((Kt ls).n)) ((Wv S.ks ((Kt ls).c) ((Kt ls).n)) + 1) _ _ (Mem.give hF25) grq17 (by refine ⟨?_, ?_, ?_⟩ <;> first | omega | (simp; omega)) sL)) ?_
    rintro rq26 w24 ⟨Hqq26, grq26, k_w24⟩
    have m24 : Mem w24 (Qu w0) (Hqq26 ++ ([(b14, .cells (cl u8 ((S.ks.getD ((Wv S.ks ((Kt ls).c) ((Kt ls).n) : Int).toNat) Ep).k)) 23 (0, 0)), (b8, .cells (Qp (sS S rq17)) 26 (0, 0)), (b11, .cells (Qp (sH ((Kt ls).c) ((Kt ls).p) ((Kt ls).n))) 53 (0, 0))] ++ (Hrq5 ++ ([(b7, .cells (cl u8 f) 23 (0, 0)), (b4, .cells (Qp (sS S vk)) 26 (0, 0))])))) := ymA (Mem.back hF25 k_w24)
    refine Qd (Zd (r := 165) X6 rfl Yy Ah rfl rfl) <| Ve (Dn 10 (sS S rq26) Ah rfl rfl grq26.one ((Mem.pick2 Hqq26 [_] [_] _ m24)).h0 rfl rfl) ?_
    rintro _ w27 uq27
    have m27 : Mem _ _ ([_] ++ (Hqq26 ++ ([_, _] ++ (Hrq5 ++ ([_, _]))))) := Mem.upd0 (Mem.pick2 Hqq26 [_] [_] _ m24) uq27
    refine rN ?_
    have hj0 := mid_in (f := f) hin
    have hj1 := Qmn (f := f) hin
    exact ⟨rq26, Hqq26, (by rw [hj0, cut_ks]; exact Yf.cast grq26 (by show _ = S.ks.take (Ee S ls).toNat ++ S.ks.drop ((Ee S ls).toNat + 1); rw [show (Wv S.ks (Kt ls).c (Kt ls).n + 1).toNat = (Ee S ls).toNat + 1 by show (Wv S.ks (Kt ls).c (Kt ls).n + 1).toNat = (Wv S.ks (Kt ls).c (Kt ls).n).toNat + 1; omega]; rfl)), (Qmy hok hin), rfl, rfl, rfl, rfl, rfl, rfl, rfl, (Eq.trans rfl (congrArg i64 (Xz hc8))), rfl, rfl, rfl, rfl, rfl, rfl, (by rw [hj0, hj1]; exact (by
     have hT := m27
     try simp only [List.append_assoc, List.cons_append, List.nil_append, List.append_nil] at hT ⊢
     exact hT))⟩
   ·
    have hc22p := of_decide_eq_false hc22
    have hin : ¬ 0 ≤ Ee S ls := hc22p
    refine sR <| Qd (Jt La Qa6 rfl ((Mem.pick2 [_, _] Hsq17 [_] _ m21)).h0) <| Qd (Qw Xf rfl Zi rfl ((Mem.pick4 [_, _] Hsq17 [_] Hrq5 [_] _ m21)).h0 N8) ?_
    have hF29 : Mem w21 (Qu w0) (([(b8, .cells (Qp (sS S rq17)) 26 (0, 0))] ++ (Hsq17 ++ ([]))) ++ ([(b14, .cells (cl u8 (List.replicate 32 0)) 23 (0, 0)), (b11, .cells (Qp (sH ((Kt ls).c) ((Kt ls).p) ((Kt ls).n))) 53 (0, 0))] ++ (Hrq5 ++ ([(b7, .cells (cl u8 f) 23 (0, 0)), (b4, .cells (Qp (sS S vk)) 26 (0, 0))])))) := by
     have hT := (Mem.pick2 Hsq17 [_] [_] _ (Mem.pick [_, _] Hsq17 _ m21))
     try simp only [List.append_assoc, List.cons_append, List.nil_append, List.append_nil] at hT ⊢
     exact hT
    refine G5 (oc53 (U2 rfl rfl rfl) (c_reach b8 S rq17 Hsq17 (Kt ls) f _ _ (Mem.give hF29) (hT.mono fun b o e => Mem.addRest hF29 e) grq17 sL sL sL sL sL)) ?_
    rintro _ w28 ⟨vqq30, Hqq30, rfl, gqq30, k_w28⟩
    have m28 : Mem w28 (Qu w0) ([(b8, .cells (Qp (sS (Pi S (Kt ls) f) vqq30)) 26 (0, 0))] ++ (Hqq30 ++ ([(b14, .cells (cl u8 (List.replicate 32 0)) 23 (0, 0)), (b11, .cells (Qp (sH ((Kt ls).c) ((Kt ls).p) ((Kt ls).n))) 53 (0, 0))] ++ (Hrq5 ++ ([(b7, .cells (cl u8 f) 23 (0, 0)), (b4, .cells (Qp (sS S vk)) 26 (0, 0))]))))) := ymA (Mem.back hF29 k_w28)
    refine Zb (Value.tuple #[(agg u8 (Ns S (Kt ls) f)), (i64 (Dz S (Kt ls) f))]) <| Qd (v := (agg u8 (Ns S (Kt ls) f))) (Zg rfl rfl) <| Qd (v := (i64 (Dz S (Kt ls) f))) (Zg rfl rfl) <| Ve (Qq (f := u8) (l := Ns S (Kt ls) f) Q9 Zi rfl rfl sL ((Mem.pick2 [_] Hqq30 [_] _ m28)).h0 N8 rfl) ?_
    rintro _ w31 uq31
    have m31 : Mem _ _ ([_, _] ++ (Hqq30 ++ ([_] ++ (Hrq5 ++ ([_, _]))))) := Mem.upd0 (Mem.pick2 [_] Hqq30 [_] _ m28) uq31
    refine Zv (i64 (Dz S (Kt ls) f)) ?_
    refine rN (sR ?_)
    refine Zb (i64 (Dz S (Kt ls) f)) <| Qd (Je (b := 0) rfl rfl) <| rN ?_
    refine Xb rfl (fun hc32 => ?_) (fun hc32 => ?_)
    ·
     have hc32p := bne_iff_ne.1 hc32
     refine sR <| Qd (Jt X6 Jo rfl ((Mem.pick5 [_, _] Hqq30 [_] Hrq5 [_] [_] _ m31)).h0) <| Zb (i64 (Dz S (Kt ls) f)) <| Vq m31 (Jw Jo rfl rfl m31.h1 (Us (RdK.one (RdK.ofRest hk m31)))) fun w33 m33 => Zv Jp <| Zv (i64 (Dz S (Kt ls) f)) ?_
     refine rN (Zy (Y7 ?_))
     refine Qs [(Value.agg (Qp (sS S vk))), Jp, (i64 (Dz S (Kt ls) f))] ⟨⟨_, rfl, Ku X6 Jo m33.h1⟩, rfl, rfl, trivial⟩ ?_
     have m34 := Mem.drop [_] _ m33
     have m35 := Mem.drop [_] _ m34
     have m36 := Mem.drop Hqq30 _ m35
     have m37 := Mem.drop [_] _ m36
     have m38 := Mem.drop Hrq5 _ m37
     have m39 := Mem.drop [_] _ m38
     have m40 := Mem.drop [_] _ m39
     obtain ⟨ho1, ho2, ho3, ho4⟩ := out_1 (b := lb) (Qcx hok hin) (bne_iff_ne.1 hc32)
     rw [ho1, ho2, ho3, ho4]
     exact ⟨Value.slice none 0 0, [], Value.slice none 0 0, [], by rw [if_neg (bne_iff_ne.1 hc32)]; rfl, Yf.none Yz 65 69, Xl.none u8 5, by simpa using m40⟩
    ·
     have hc32p := Xz hc32
     refine Qo (Qa ?_)
     have hj0 := Qml (f := f) hin
     have hj1 := Qkc (f := f) hin
     have m41 := (Mem.pick5 [_, _] Hqq30 [_] Hrq5 [_] [_] _ m31)
     have m42 := (Mem.pick4 [_, _, _] Hqq30 [_] Hrq5 [_] _ m41)
     have m43 := (Mem.pick3 [_, _, _, _] Hqq30 [_] Hrq5 _ m42)
     have m44 := (Mem.pick3 Hrq5 [_, _, _, _] Hqq30 [_] _ m43)
     have m45 := (Mem.pick3 [_] Hrq5 [_, _] [_] _ m44)
     have m46 := (Mem.pick3 [_, _] Hrq5 [_, _, _] Hqq30 _ m45)
     have m47 := (Mem.pick4 Hqq30 [_, _] Hrq5 [_, _] [_] _ m46)
     exact ⟨vqq30, Hqq30, (by rw [hj0]; exact gqq30), ((Qcx hok hin).trans (Xz hc32)), rfl, rfl, rfl, rfl, rfl, rfl, rfl, (Eq.trans rfl (congrArg i64 (Xz hc32))), rfl, rfl, rfl, rfl, rfl, rfl, (by rw [hj0, hj1]; exact (by
      have hT := m47
      try simp only [List.append_assoc, List.cons_append, List.nil_append, List.append_nil] at hT ⊢
      exact hT))⟩
  rintro fr48 w49 ⟨vj, Hj, gj, hd1, s0, s1, s2, s3, s4, s7, s8, s10, s11, s12, s13, s14, s22, s35, m49⟩
  refine Qc <| Ju Xh ?_
  have hFM50 : Mem w49 (Qu w0) ([] ++ ([(b8, .cells (Qp (sS (Pm S ls f) vj)) 26 (0, 0))] ++ (Hj ++ ([(b14, .cells (cl u8 (Cf S ls f)) 23 (0, 0)), (b11, .cells (Qp (sH ((Kt ls).c) ((Kt ls).p) ((Kt ls).n))) 53 (0, 0))] ++ (Hrq5 ++ ([(b7, .cells (cl u8 f) 23 (0, 0)), (b4, .cells (Qp (sS S vk)) 26 (0, 0))])))))) := m49
  obtain ⟨RM50, hRM50⟩ : ∃ R2, R2 = Rest.add (Qu w0) ([(b8, .cells (Qp (sS (Pm S ls f) vj)) 26 (0, 0))] ++ (Hj ++ ([(b14, .cells (cl u8 (Cf S ls f)) 23 (0, 0)), (b11, .cells (Qp (sH ((Kt ls).c) ((Kt ls).p) ((Kt ls).n))) 53 (0, 0))] ++ (Hrq5 ++ ([(b7, .cells (cl u8 f) 23 (0, 0)), (b4, .cells (Qp (sS S vk)) 26 (0, 0))]))))) := ⟨_, rfl⟩
  have M500 : Mem w49 RM50 [] := by rw [hRM50]; exact Mem.give hFM50
  have hr51 : Rd RM50.blk u8 vb lb := by rw [hRM50]; exact Rd.mono hrb fun b o e => Mem.addRest hFM50 e
  have hr52 : Rd RM50.blk u8 vs ls := by rw [hRM50]; exact Rd.mono hrs fun b o e => Mem.addRest hFM50 e
  have hg53 : Rd RM50.blk u8 vrq5 (hdR ls) := grq5.rdIn (fun p hp => by rw [hRM50]; exact Mem.addOwn hFM50 (List.mem_append_right _ (List.mem_append_right _ (List.mem_append_right _ (List.mem_append_left _ hp)))))
  have ho54 : RM50.blk b8 = some (.cells (Qp (sS (Pm S ls f) vj)) 26 (0, 0)) := by rw [hRM50]; exact Mem.addOwn hFM50 (List.mem_append_left _ (List.Mem.head _))
  have hg55 : RdK RM50.blk Yz 65 vj ((Pm S ls f).ks) := gj.rdIn (fun p hp => by rw [hRM50]; exact Mem.addOwn hFM50 (List.mem_append_right _ (List.mem_append_left _ hp)))
  have ho56 : RM50.blk b14 = some (.cells (cl u8 (Cf S ls f)) 23 (0, 0)) := by rw [hRM50]; exact Mem.addOwn hFM50 (List.mem_append_right _ (List.mem_append_right _ (List.mem_append_left _ (List.Mem.head _))))
  have ho57 : RM50.blk b11 = some (.cells (Qp (sH ((Kt ls).c) ((Kt ls).p) ((Kt ls).n))) 53 (0, 0)) := by rw [hRM50]; exact Mem.addOwn hFM50 (List.mem_append_right _ (List.mem_append_right _ (List.mem_append_left _ (List.Mem.tail _ (List.Mem.head _)))))
  have ho58 : RM50.blk b7 = some (.cells (cl u8 f) 23 (0, 0)) := by rw [hRM50]; exact Mem.addOwn hFM50 (List.mem_append_right _ (List.mem_append_right _ (List.mem_append_right _ (List.mem_append_right _ (List.Mem.head _)))))
  have ho59 : RM50.blk b4 = some (.cells (Qp (sS S vk)) 26 (0, 0)) := by rw [hRM50]; exact Mem.addOwn hFM50 (List.mem_append_right _ (List.mem_append_right _ (List.mem_append_right _ (List.mem_append_right _ (List.Mem.tail _ (List.Mem.head _))))))
  have hr60 : RdK RM50.blk Yz 65 vk S.ks := by rw [hRM50]; exact RdK.mono hk fun b o e => Mem.addRest hFM50 e
  have hT61 : Tabs RM50.blk := by rw [hRM50]; exact Tabs.mono hT fun b o e => Mem.addRest hFM50 e
  refine Ea M500 [(0, false), (1, false), (2, false), (4, false), (5, false), (7, false), (3, true), (6, true), (8, true), (9, false), (10, false), (11, false), (12, false)] 13 rfl Xh <| yqH rfl (fun w _H _hx => Qw Xf rfl Zi s14 (_hx.rest _ _ ho56) N8) <| L9 rfl (Hu (ps := []) (c := (cl u8 (List.replicate 12 0))) Qb4 Sl Yw Xk rfl) <| L9 rfl (Ye s1) <| L9 rfl (Ye s2) <| yqH rfl (fun w _H _hx => Yv (i := 0) (j := 40) (Rd.ofRest hr52 _hx) Zx Yw rfl (Zc _ _) (Xv (k := .i64) (i := 40) rfl) oM sL sL) <| L9 rfl (Ye s12) ?_
  refine Qf7 rfl rfl (fun w62 e62 => ?_)
  have m62 := M500.ext e62
  refine J8.mono (oc34 (Jb rfl) (Rt vb lb _ (Rd.ofRest hr51 m62) sL)) ?_
  rintro rq64 w63 ⟨Hsq64, grq64, k_w63⟩
  have m63 : Mem _ _ (Hsq64 ++ ([])) := Mem.new (H := []) (H' := Hsq64) m62 k_w63
  refine ⟨⟨_, m63⟩, ?_⟩
  refine Qf7 rfl rfl (fun w65 e65 => ?_)
  have m65 := m63.ext e65
  refine J8.mono (Yl (f := u8) (Hs := Hsq64) (H := []) m65 grq64 rfl rfl (Rd.cast (l' := (ls.drop 0).take 40) (Rd.sub (Rd.ofRest hr52 m65) oM sL sL) rfl) Zx Zx Yw rfl Q9 sL sL) ?_
  rintro sv66 w66 ⟨Hs66, m66, g66⟩
  replace g66 : Xl u8 5 sv66 (lb ++ ((ls.drop 0).take 40)) Hs66 := g66
  refine ⟨⟨_, m66⟩, ?_⟩
  refine Qf7 rfl rfl (fun w67 e67 => ?_)
  have m67 := m66.ext e67
  refine J8.mono (oc54 (Qao rfl rfl rfl rfl) (c_open _ _ sv66 (lb ++ ((ls.drop 0).take 40)) vrq5 (hdR ls) _ (hT61.mono fun b o e => (m67).rest b o e) sL sL (g66.rd m67) sL (Rd.ofRest hg53 m67) sL)) ?_
  rintro _ w68 ⟨vxq69, Hsq69, rfl, gvxq69, k_w68⟩
  have m68 : Mem _ _ (Hsq69 ++ (Hs66 ++ ([]))) := Mem.new (H := Hs66 ++ ([])) (H' := Hsq69) m67 k_w68
  refine ⟨⟨_, m68⟩, ?_⟩
  refine L9 rfl (Ye rfl) <| L9 (v := vxq69) rfl (Zg rfl rfl) <| L9 (v := (i64 (Qba (Cf S ls f) (List.replicate 12 0) (lb ++ ((ls.drop 0).take 40)) (hdR ls)))) rfl (Zg rfl rfl) <| L9 rfl (Gi (v := vxq69) rfl) <| Ug m68 fun w70 m70 => ?_
  have hX71 := m70
  rw [hRM50] at hX71
  have m72 : Mem w70 (Qu w0) (Hsq69 ++ (Hs66 ++ ([(b8, .cells (Qp (sS (Pm S ls f) vj)) 26 (0, 0))] ++ (Hj ++ ([(b14, .cells (cl u8 (Cf S ls f)) 23 (0, 0)), (b11, .cells (Qp (sH ((Kt ls).c) ((Kt ls).p) ((Kt ls).n))) 53 (0, 0))] ++ (Hrq5 ++ ([(b7, .cells (cl u8 f) 23 (0, 0)), (b4, .cells (Qp (sS S vk)) 26 (0, 0))]))))))) := ymA (Mem.back hFM50 hX71)
  refine Sv rfl ?_
  refine rN (Qc (sR ?_))
  refine Yk rfl <| Qd (Je (b := 0) rfl rfl) <| rN ?_
  refine Xb rfl (fun hc73 => ?_) (fun hc73 => ?_)
  ·
   have hc73p := bne_iff_ne.1 hc73
   refine sR <| Qd (Jt X6 Jo s4 ((Mem.pick7 Hsq69 Hs66 [_] Hj [_, _] Hrq5 [_] [_] _ m72)).h0) <| Yk rfl <| Ve (Jw Jo s8 rfl ((Mem.pick2 Hsq69 Hs66 [_] _ m72)).h0 (Us (RdK.one (RdK.ofRest hk m72)))) ?_
   rintro _ w74 uq74
   have m74 : Mem _ _ ([_] ++ (Hsq69 ++ (Hs66 ++ (Hj ++ ([_, _] ++ (Hrq5 ++ ([_, _]))))))) := Mem.upd0 (Mem.pick2 Hsq69 Hs66 [_] _ m72) uq74
   refine Zv Jp <| Sv rfl ?_
   refine rN (Zy (Y7 ?_))
   refine Qs [(Value.agg (Qp (sS S vk))), Jp, (i64 (Qba (Cf S ls f) (List.replicate 12 0) (lb ++ ((ls.drop 0).take 40)) (hdR ls)))] ⟨⟨_, s8, Ku X6 Jo m74.h0⟩, rfl, rfl, trivial⟩ ?_
   have hon : Qfo (Cf S ls f) lb ls = (Qba (Cf S ls f) (List.replicate 12 0) (lb ++ ((ls.drop 0).take 40)) (hdR ls)) := by unfold Qfo; rw [← hrr]; rfl
   have m75 := Mem.drop [_] _ m74
   have m76 := Mem.drop Hsq69 _ m75
   have m77 := Mem.drop Hs66 _ m76
   have m78 := Mem.drop Hj _ m77
   have m79 := Mem.drop [_] _ m78
   have m80 := Mem.drop [_] _ m79
   have m81 := Mem.drop Hrq5 _ m80
   have m82 := Mem.drop [_] _ m81
   have m83 := Mem.drop [_] _ m82
   obtain ⟨ho1, ho2, ho3, ho4⟩ := out_2 hd1 (by rw [hon]; exact bne_iff_ne.1 hc73)
   rw [ho1, ho2, ho3, ho4]
   exact ⟨Value.slice none 0 0, [], Value.slice none 0 0, [], by rw [if_neg (by rw [hon]; exact bne_iff_ne.1 hc73)]; rw [hon]; rfl, Yf.none Yz 65 69, Xl.none u8 5, by simpa using m83⟩
  ·
   have hc73p := Xz hc73
   refine Qo (Qa (sR ?_))
   refine Qd (Jt X6 Jo s8 ((Mem.pick2 Hsq69 Hs66 [_] _ m72)).h0) <| Zb vxq69 <| Ve (Jw Jo s8 rfl ((Mem.pick2 Hsq69 Hs66 [_] _ m72)).h0 (Us gj.one)) ?_
   rintro _ w84 uq84
   have m84 : Mem _ _ ([_] ++ (Hsq69 ++ (Hs66 ++ (Hj ++ ([_, _] ++ (Hrq5 ++ ([_, _]))))))) := Mem.upd0 (Mem.pick2 Hsq69 Hs66 [_] _ m72) uq84
   refine Zv vxq69 <| Zv (i64 0) ?_
   refine rN (Zy ?_)
   refine Qs [(Value.agg (Qp (sS (Pm S ls f) vj))), vxq69, (i64 0)] ⟨⟨_, s8, Ku X6 Jo m84.h0⟩, rfl, rfl, trivial⟩ ?_
   have hon : Qfo (Cf S ls f) lb ls = (Qba (Cf S ls f) (List.replicate 12 0) (lb ++ ((ls.drop 0).take 40)) (hdR ls)) := by unfold Qfo; rw [← hrr]; rfl
   have m85 := Mem.drop [_] _ m84
   have m86 := Mem.drop Hs66 _ (Mem.pick Hsq69 Hs66 _ m85)
   have m87 := Mem.drop [_] _ (Mem.pick2 Hsq69 Hj [_] _ m86)
   have m88 := Mem.drop [_] _ (Mem.pick2 Hsq69 Hj [_] _ m87)
   have m89 := Mem.drop Hrq5 _ (Mem.pick2 Hsq69 Hj Hrq5 _ m88)
   have m90 := Mem.drop [_] _ (Mem.pick2 Hsq69 Hj [_] _ m89)
   have m91 := Mem.drop [_] _ (Mem.pick2 Hsq69 Hj [_] _ m90)
   have m92 := (Mem.pick Hsq69 Hj _ m91)
   obtain ⟨ho1, ho2, ho3, ho4⟩ := out_3 hd1 (by rw [hon]; exact Xz hc73)
   rw [ho1, ho2, ho3, ho4]
   exact ⟨vj, Hj, vxq69, Hsq69, by rw [if_pos rfl]; rfl, gj, Xl.cast gvxq69 (by unfold opnP; rw [← hrr]; rfl), (by
    have hT := m92
    try simp only [List.append_assoc, List.cons_append, List.nil_append, List.append_nil] at hT ⊢
    exact hT)⟩
end Go.Proofs.YtkmiemlpfkfiiaaDoor
