/- The ratchet: what is deciphered (the code). Conditions: none beyond those that each theorem states. -/
import Derived.Test.YtkmiemlpfkfiiaaDoorRb5
import Derived.Test.YtkmiemlpfkfiiaaDoorRb6
namespace Go.Proofs.YtkmiemlpfkfiiaaDoor
open Tryd
set_option linter.unusedVariables false
set_option linter.unusedSimpArgs false
def Ae (S : Sn) (s : Z8) : Int := V9 S.ks (Xe s).c (Xe s).n
def Qei (S : Sn) (s f : Z8) : Int := if P7 s then (if 0 ≤ Ae S s then 0 else Pi S (Xe s) f) else 3
def N7 (S : Sn) (s f : Z8) : Z8 := if 0 ≤ Ae S s then (S.ks.getD (Ae S s).toNat Gu).k else Qbz S (Xe s) f
def Sn.cutK (S : Sn) (i : Nat) : Sn := ⟨S.r, S.w, S.o, S.sb, S.tb, S.s, S.t, S.n1, S.n2, S.n3, S.ks.take i ++ S.ks.drop (i + 1), S.hr, S.hw, S.ho, S.hs, S.ht⟩
def Qb0 (S : Sn) (s f : Z8) : Sn := if 0 ≤ Ae S s then S.cutK (Ae S s).toNat else Qcf S (Xe s) f
def Qdf (k b s : Z8) : Int := Qaw k (List.replicate 12 0) (b ++ s.take 40) (s.drop 40)
def opnP (k b s : Z8) : Z8 := Qbd k (List.replicate 12 0) (b ++ s.take 40) (s.drop 40)
def Dk (S : Sn) (b s f : Z8) : Int := if Qei S s f = 0 then Qdf (N7 S s f) b s else Qei S s f
def Qb7 (S : Sn) (b s f : Z8) : Z8 := if Dk S b s f = 0 then opnP (N7 S s f) b s else []
def Tz (S : Sn) (b s f : Z8) : Sn := if Dk S b s f = 0 then Qb0 S s f else S
def Qg4 (S : Sn) (b s f : Z8) : List Kp := if Dk S b s f = 0 then (Qb0 S s f).ks else []
section
variable {S : Sn} {b s f : Z8}
theorem Qmn (h : Dk S b s f ≠ 0) : Tz S b s f = S ∧ Qb7 S b s f = [] ∧ Qg4 S b s f = [] := by
 refine ⟨?_, ?_, ?_⟩
 ·unfold Tz; rw [if_neg h]
 ·unfold Qb7; rw [if_neg h]
 unfold Qg4; rw [if_neg h]
theorem dec_z (h : Dk S b s f = 0) : Tz S b s f = Qb0 S s f ∧ Qb7 S b s f = opnP (N7 S s f) b s ∧ Qg4 S b s f = (Qb0 S s f).ks := by
 refine ⟨?_, ?_, ?_⟩
 ·unfold Tz; rw [if_pos h]
 ·unfold Qb7; rw [if_pos h]
 unfold Qg4; rw [if_pos h]
theorem Qqy (h : P7 s = false) : Qei S s f = 3 := by unfold Qei; rw [h]; rfl
theorem Qmo (h : P7 s = true) (h1 : 0 ≤ Ae S s) : Qei S s f = 0 := by unfold Qei; rw [h, if_pos h1]; rfl
theorem Qjw (h : P7 s = true) (h1 : ¬ 0 ≤ Ae S s) : Qei S s f = Pi S (Xe s) f := by unfold Qei; rw [h, if_neg h1]; rfl
theorem decE_1 (h : Qei S s f ≠ 0) : Dk S b s f = Qei S s f := by unfold Dk; rw [if_neg h]
theorem decE_0 (h : Qei S s f = 0) : Dk S b s f = Qdf (N7 S s f) b s := by unfold Dk; rw [if_pos h]
theorem Qmb (h1 : 0 ≤ Ae S s) : N7 S s f = (S.ks.getD (Ae S s).toNat Gu).k := by unfold N7; rw [if_pos h1]
theorem Qjf (h1 : ¬ 0 ≤ Ae S s) : N7 S s f = Qbz S (Xe s) f := by unfold N7; rw [if_neg h1]
theorem Qnv : (N7 S s f).length = 32 := by unfold N7; split; exact Kp.hk _; exact Qi7 _ _ _
theorem Qo0 (h1 : 0 ≤ Ae S s) : Qb0 S s f = S.cutK (Ae S s).toNat := by unfold Qb0; rw [if_pos h1]
theorem Ql7 (h1 : ¬ 0 ≤ Ae S s) : Qb0 S s f = Qcf S (Xe s) f := by unfold Qb0; rw [if_neg h1]
theorem Ql8 : (Qb0 S s f).ks.length ≤ S.ks.length + 4000 := by
 unfold Qb0; split
 ·show (S.ks.take _ ++ S.ks.drop _).length ≤ _
  rw [List.length_append, List.length_take, List.length_drop]; omega
 exact rchS_len _ _ _
theorem Qk1 {e : Int} (h : Qei S s f = e) (hz : e ≠ 0) : Dk S b s f = e ∧ Tz S b s f = S ∧ Qb7 S b s f = [] ∧ Qg4 S b s f = [] := by
 have h1 : Dk S b s f = e := by rw [decE_1 (by rw [h]; exact hz), h]
 exact ⟨h1, Qmn (by rw [h1]; exact hz)⟩
theorem out_2 (h : Qei S s f = 0) (hz : Qdf (N7 S s f) b s ≠ 0) : Dk S b s f = Qdf (N7 S s f) b s ∧ Tz S b s f = S ∧ Qb7 S b s f = [] ∧ Qg4 S b s f = [] := by
 have h1 := decE_0 (b := b) h
 exact ⟨h1, Qmn (by rw [h1]; exact hz)⟩
theorem out_3 (h : Qei S s f = 0) (hz : Qdf (N7 S s f) b s = 0) : Dk S b s f = 0 ∧ Tz S b s f = Qb0 S s f ∧ Qb7 S b s f = opnP (N7 S s f) b s ∧ Qg4 S b s f = (Qb0 S s f).ks := by
 have h1 := (decE_0 (b := b) h).trans hz
 exact ⟨h1, dec_z h1⟩
end
theorem RdK.ite {α : Type} {enc : α → List Value} {k : Nat} {m : Nat → Option Obj} {p : Prop} [Decidable p] {u v : Value} {l : List α} (h1 : p → RdK m enc k u l) (h2 : ¬ p → RdK m enc k v l) : RdK m enc k (if p then u else v) l := by
 split
 ·exact h1 ‹_›
 exact h2 ‹_›
theorem hdE_0 {b : Z8} (h : hdE b = 0) : P7 b = true := by
 cases e : P7 b with
 | true => rfl
 | false => rw [(Qhp e).2.1] at h; exact absurd h Jb
theorem hdE_3 {b : Z8} (h : hdE b ≠ 0) : P7 b = false ∧ hdE b = 3 := by
 cases e : P7 b with
 | false => exact ⟨rfl, (Qhp e).2.1⟩
 | true => exact absurd (Qe3 e).2.1 h
theorem Qju {S : Sn} {b s f : Z8} (h : Dk S b s f = 0) : Qg4 S b s f = (Tz S b s f).ks := by rw [(dec_z h).1, (dec_z h).2.2]
theorem Qjv {S : Sn} {b s f : Z8} (h : Dk S b s f ≠ 0) : S.ks = (Tz S b s f).ks := by rw [(Qmn h).1]
theorem decP_le {S : Sn} {b s f : Z8} : (Qb7 S b s f).length ≤ s.length := by
 unfold Qb7; split
 ·unfold opnP; refine Nat.le_trans (openQ_le _ _ _ _) ?_; rw [List.length_drop]; omega
 exact Nat.zero_le _
theorem decN_len {S : Sn} {b s f : Z8} : (Tz S b s f).ks.length ≤ S.ks.length + 4000 := by
 unfold Tz; split
 ·exact Ql8
 omega
theorem Qpr (S : Sn) (i : Nat) : (S.cutK i).ks = S.ks.take i ++ S.ks.drop (i + 1) := rfl
attribute [local irreducible] Qee Pq Wn Dh Yc Jf Qaz Wh Vb Kz Xj Lc Ef Xr Yu V5 Ac Ai P7 Xe hdR hdE V9 Qaw Qbd Pi Qcf Qbz Jp
set_option maxHeartbeats 2000000 in
theorem c_dec19 (S : Sn) (vk : Value) (vb : Value) (lb : Z8) (vs : Value) (ls : Z8) (f : Z8) (w0 : World)  (hT : Tabs (Y8 w0)) (hk : RdK (Y8 w0) Y3 65 vk S.ks) (hrb : Rd (Y8 w0) u8 vb lb) (hlb : lb.length ≤ 90000) (hrs : Rd (Y8 w0) u8 vs ls) (hls : ls.length ≤ 90000) (hfl : f.length = 32) (hn2 : 0 ≤ S.n2 ∧ S.n2 ≤ 2147483647) (hkl : S.ks.length ≤ 5000) : X0 prog 25 #[(Value.agg (Qz (sS S vk))), vb, vs, (agg u8 f)] w0 (fun r w1 => ∃ vq Hq vp Hp, r = Value.tuple #[(Value.agg (Qz (sS (Tz S lb ls f) (if Dk S lb ls f = 0 then vq else vk)))), vp, i64 (Dk S lb ls f)] ∧ Yx Y3 65 69 vq (Qg4 S lb ls f) Hq ∧ Z5 u8 5 vp (Qb7 S lb ls f) Hp ∧ Mem w1 (Qr w0) (Hq ++ Hp)) := by
 refine Qy (args := [(Value.agg (Qz (sS S vk))), vb, vs, (agg u8 f)]) func25 rfl ntmps25 results25 rfl ?_
 have m0 : Mem w0 (Qr w0) [] := Mem.of_world w0
 have hhc := (Xe ls).hc
 have hkal := Qnv (S := S) (s := ls) (f := f)
 have hmll := Ql8 (S := S) (s := ls) (f := f)
 have hrkl := Qi7 S (Xe ls) f
 refine sR <| Y9 (Us (cs := (Qz (sS S vk))) m0 rfl) fun w1 b4 m1 => Y9 (Xc (f := u8) (l := f) m1 rfl) fun w2 b7 m2 => Y9 (Jw m2 J6) fun w3 b8 m3 => Zx Wl <| Zx (i64 0) ?_
 refine rN (sR ?_)
 refine Zm vs <| Vw (oc23 (Jv rfl) (Qoc vs ls _ (Rd.ofRest hrs m3) sL)) ?_
 rintro _ w4 ⟨vrq5, Hrq5, rfl, grq5, k_w4⟩
 have m4 : Mem _ _ (Hrq5 ++ ([_, _, _])) := Mem.new (H := [_, _, _]) (H' := Hrq5) m3 k_w4
 refine Yb rfl <| Qd (v := (Value.agg (Qz (sH ((Xe ls).c) ((Xe ls).p) ((Xe ls).n))))) (Zr rfl rfl) <| Qd (v := vrq5) (Zr rfl rfl) <| Qd (v := (i64 (hdE ls))) (Zr rfl rfl) <| Y9 (Jw m4 D9) fun w6 b11 m6 => Ye m6 (Kt D9 rfl rfl m6.h0 (Yl (Jj Qs _) (Yl (Xy (Zv _) Jz) (Yl (Xy (Zv _) Jz) Uw)))) fun w7 m7 => Zx vrq5 <| Zx (i64 (hdE ls)) ?_
 refine rN (Qa (sR ?_))
 refine Zm (i64 (hdE ls)) <| Qd (We (b := 0) rfl rfl) <| rN ?_
 refine Zy rfl (fun hc8 => ?_) (fun hc8 => ?_)
 ·
  have hc8p := bne_iff_ne.1 hc8
  refine sR <| Qd (J7 Xt J6 rfl ((Mem.pick3 [_] Hrq5 [_, _] [_] _ m7)).h0) <| Zm (i64 (hdE ls)) <| Vf (Kt J6 rfl rfl ((Mem.pick2 [_] Hrq5 [_] _ m7)).h0 (Fa (RdK.one (RdK.ofRest hk m7)))) ?_
  rintro _ w9 uq9
  have m9 : Mem _ _ ([_, _] ++ (Hrq5 ++ ([_, _]))) := Mem.upd0 (Mem.pick2 [_] Hrq5 [_] _ m7) uq9
  refine Zx Wl <| Zx (i64 (hdE ls)) ?_
  refine rN (Zz (Yv ?_))
  refine Qp [(Value.agg (Qz (sS S vk))), Wl, (i64 (hdE ls))] ⟨⟨_, rfl, Jr Xt J6 m9.h0⟩, rfl, rfl, trivial⟩ ?_
  have m10 := Mem.drop [_] _ m9
  have m11 := Mem.drop [_] _ m10
  have m12 := Mem.drop Hrq5 _ m11
  have m13 := Mem.drop [_] _ m12
  have m14 := Mem.drop [_] _ m13
  obtain ⟨ho1, ho2, ho3, ho4⟩ := Qk1 (b := lb) (Qqy (f := f) (S := S) (hdE_3 (bne_iff_ne.1 hc8)).1) Jb
  rw [ho1, ho2, ho3, ho4]
  exact ⟨Value.slice none 0 0, [], Value.slice none 0 0, [], by rw [if_neg Jb]; rw [(hdE_3 (bne_iff_ne.1 hc8)).2]; rfl, Yx.none Y3 65 69, Z5.none u8 5, by simpa using m14⟩
 ·
  have hc8p := X3 hc8
  have hok := hdE_0 (X3 hc8)
  obtain ⟨hl40, hhp, hhn⟩ := hd_of hok
  have hrr := (Qe3 hok).2.2
  have hrl : (hdR ls).length = ls.length - 40 := by rw [hrr, List.length_drop]
  refine Qn (Qc (sR ?_))
  refine Qd (J7 Xt J6 rfl ((Mem.pick3 [_] Hrq5 [_, _] [_] _ m7)).h0) <| Vf (Kt J6 rfl rfl ((Mem.pick2 [_] Hrq5 [_] _ m7)).h0 (Fa (RdK.one (RdK.ofRest hk m7)))) ?_
  rintro _ w15 uq15
  have m15 : Mem _ _ ([_, _] ++ (Hrq5 ++ ([_, _]))) := Mem.upd0 (Mem.pick2 [_] Hrq5 [_] _ m7) uq15
  refine rN (sR ?_)
  refine Qd (Zi (r := 165) Xt rfl Je Ec rfl rfl) <| Qd (Yi 10 Wq rfl ((Mem.pick3 [_, _] Hrq5 [_] [_] _ m15)).h0 rfl) <| Vw (oc29 (Jv rfl) (Qod vk S.ks _ (RdK.ofRest hk m15) sL)) ?_
  rintro rq17 w16 ⟨Hsq17, grq17, k_w16⟩
  have m16 : Mem _ _ (Hsq17 ++ ([_, _] ++ (Hrq5 ++ ([_, _])))) := Mem.new (H := [_, _] ++ (Hrq5 ++ ([_, _]))) (H' := Hsq17) m15 k_w16
  refine Qd (Zi (r := 165) Xt rfl Je Ec rfl rfl) <| Vf (G5 10 (sS S rq17) Ec rfl rfl grq17.one ((Mem.pick Hsq17 [_] _ m16)).h0 rfl rfl) ?_
  rintro _ w18 uq18
  have m18 : Mem _ _ ([_] ++ (Hsq17 ++ ([_] ++ (Hrq5 ++ ([_, _]))))) := Mem.upd0 (Mem.pick Hsq17 [_] _ m16) uq18
  refine rN (sR ?_)
  refine Qd (Zi (r := 165) Xt rfl Je Ec rfl rfl) <| Qd (Yi 10 Wq rfl m18.h0 rfl) <| Qd (Qht (Jv rfl)) <| U3 m18 (oc50 (Xm rfl rfl) (c_findK rq17 S.ks b11 ((Xe ls).c) ((Xe ls).p) ((Xe ls).n) _ (grq17.rd (Mem.pick [_] Hsq17 _ m18)) sL ((Mem.pick2 [_] Hsq17 [_] _ m18)).h0 sL)) fun w19 m19 => Zx (i64 (V9 S.ks ((Xe ls).c) ((Xe ls).n))) ?_
  refine rN (sR ?_)
  refine Y9 (Q7 m19 Zg) fun w21 b14 m21 => ?_
  refine rN (Qa (sR ?_))
  refine Zm (i64 (V9 S.ks ((Xe ls).c) ((Xe ls).n))) <| Qd (F5 (b := 0) rfl rfl) <| rN ?_
  refine H5 (J := fun g wv => ∃ (vj : Value) (Hj : List (Nat × Obj)), (Yx Y3 65 69 vj (Qb0 S ls f).ks Hj) ∧ (Qei S ls f = 0) ∧ g 0 = (Value.agg (Qz (sS S vk))) ∧ g 1 = vb ∧ g 2 = vs ∧ g 3 = (agg u8 f) ∧ g 4 = (ptr b4 0) ∧ g 7 = (ptr b7 0) ∧ g 8 = (ptr b8 0) ∧ g 10 = (i64 0) ∧ g 11 = (ptr b11 0) ∧ g 12 = vrq5 ∧ g 13 = (i64 (V9 S.ks ((Xe ls).c) ((Xe ls).n))) ∧ g 14 = (ptr b14 0) ∧ g 22 = (bl ((hdE ls) != 0)) ∧ g 35 = (bl (decide (0 ≤ (V9 S.ks ((Xe ls).c) ((Xe ls).n))))) ∧ Mem wv (Qr w0) ([(b8, .cells (Qz (sS (Qb0 S ls f) vj)) 26 (0, 0))] ++ (Hj ++ ([(b14, .cells (cl u8 (N7 S ls f)) 23 (0, 0)), (b11, .cells (Qz (sH ((Xe ls).c) ((Xe ls).p) ((Xe ls).n))) 53 (0, 0))] ++ (Hrq5 ++ ([(b7, .cells (cl u8 f) 23 (0, 0)), (b4, .cells (Qz (sS S vk)) 26 (0, 0))])))))) ?_ ?_
  ·skip
   refine Zy rfl (fun hc22 => ?_) (fun hc22 => ?_)
   ·
    have hc22p := of_decide_eq_true hc22
    have hin : 0 ≤ Ae S ls := hc22p
    obtain ⟨i, hi1, hi2⟩ : ∃ i : Nat, V9 S.ks (Xe ls).c (Xe ls).n = i ∧ i < S.ks.length := (find_ge).resolve_left oM
    have hkk := (S.ks.getD (V9 S.ks (Xe ls).c (Xe ls).n).toNat Gu).hk
    refine sR <| Qd (Zi (r := 165) Xt rfl Je Ec rfl rfl) <| Qd (Yi 10 Wq rfl m21.h1 rfl) <| Zm (i64 (V9 S.ks ((Xe ls).c) ((Xe ls).n))) <| Qd (Yn (i := V9 S.ks ((Xe ls).c) ((Xe ls).n)) (grq17.rd (Mem.pick [_, _] Hsq17 _ m21)) Wq Dj rfl rfl oM sL) <| Qd (N8 (i := V9 S.ks ((Xe ls).c) ((Xe ls).n)) (grq17.rd (Mem.pick [_, _] Hsq17 _ m21)) sL Qbk rfl Je Zg rfl rfl) <| Qd (v := (agg u8 ((S.ks.getD ((V9 S.ks ((Xe ls).c) ((Xe ls).n) : Int).toNat) Gu).k))) (Eo (i := V9 S.ks ((Xe ls).c) ((Xe ls).n)) (dflt := Gu) (cs := (cl u8 ((S.ks.getD ((V9 S.ks ((Xe ls).c) ((Xe ls).n) : Int).toNat) Gu).k))) (grq17.rd (Mem.pick [_, _] Hsq17 _ m21)) sL Xl rfl Zg rfl rfl Jb (kp_k (S.ks.getD ((V9 S.ks ((Xe ls).c) ((Xe ls).n) : Int).toNat) Gu))) <| Ye m21 (Qg (f := u8) (l := (S.ks.getD ((V9 S.ks ((Xe ls).c) ((Xe ls).n) : Int).toNat) Gu).k) Qs Zg rfl rfl sL m21.h0 Sv rfl) fun w23 m23 => ?_
    refine rN (Qb ?_)
    refine Qd (Zi (r := 165) Xt rfl Je Ec rfl rfl) <| Qd (Yi 10 Wq rfl m23.h1 rfl) <| Zm (i64 (V9 S.ks ((Xe ls).c) ((Xe ls).n))) <| Zm (i64 (V9 S.ks ((Xe ls).c) ((Xe ls).n))) <| Qd (Zf (b := 1) rfl rfl oM oM) ?_
    have hF25 : Mem w23 (Qr w0) ((Hsq17 ++ ([])) ++ ([(b14, .cells (cl u8 ((S.ks.getD ((V9 S.ks ((Xe ls).c) ((Xe ls).n) : Int).toNat) Gu).k)) 23 (0, 0)), (b8, .cells (Qz (sS S rq17)) 26 (0, 0)), (b11, .cells (Qz (sH ((Xe ls).c) ((Xe ls).p) ((Xe ls).n))) 53 (0, 0))] ++ (Hrq5 ++ ([(b7, .cells (cl u8 f) 23 (0, 0)), (b4, .cells (Qz (sS S vk)) 26 (0, 0))])))) := by
     have hT := (Mem.pick [_, _] Hsq17 _ m23)
     try simp only [List.append_assoc, List.cons_append, List.nil_append, List.append_nil] at hT ⊢
     exact hT
    refine Vw (oc52 (Ci rfl rfl rfl) (c_delK rq17 S.ks Hsq17 (V9 S.ks ((Xe ls).c) ((Xe ls).n)) ((V9 S.ks ((Xe ls).c) ((Xe ls).n)) + 1) _ _ (Mem.give hF25) grq17 (by refine ⟨?_, ?_, ?_⟩ <;> first | omega | (simp; omega)) sL)) ?_
    rintro rq26 w24 ⟨Hqq26, grq26, k_w24⟩
    have m24 : Mem w24 (Qr w0) (Hqq26 ++ ([(b14, .cells (cl u8 ((S.ks.getD ((V9 S.ks ((Xe ls).c) ((Xe ls).n) : Int).toNat) Gu).k)) 23 (0, 0)), (b8, .cells (Qz (sS S rq17)) 26 (0, 0)), (b11, .cells (Qz (sH ((Xe ls).c) ((Xe ls).p) ((Xe ls).n))) 53 (0, 0))] ++ (Hrq5 ++ ([(b7, .cells (cl u8 f) 23 (0, 0)), (b4, .cells (Qz (sS S vk)) 26 (0, 0))])))) := ymA (Mem.back hF25 k_w24)
    refine Qd (Zi (r := 165) Xt rfl Je Ec rfl rfl) <| Vf (G5 10 (sS S rq26) Ec rfl rfl grq26.one ((Mem.pick2 Hqq26 [_] [_] _ m24)).h0 rfl rfl) ?_
    rintro _ w27 uq27
    have m27 : Mem _ _ ([_] ++ (Hqq26 ++ ([_, _] ++ (Hrq5 ++ ([_, _]))))) := Mem.upd0 (Mem.pick2 Hqq26 [_] [_] _ m24) uq27
    refine rN ?_
    have hj0 := Qo0 (f := f) hin
    have hj1 := Qmb (f := f) hin
    exact ⟨rq26, Hqq26, (by rw [hj0, Qpr]; exact Yx.cast grq26 (by show _ = S.ks.take (Ae S ls).toNat ++ S.ks.drop ((Ae S ls).toNat + 1); rw [show (V9 S.ks (Xe ls).c (Xe ls).n + 1).toNat = (Ae S ls).toNat + 1 by show (V9 S.ks (Xe ls).c (Xe ls).n + 1).toNat = (V9 S.ks (Xe ls).c (Xe ls).n).toNat + 1; omega]; rfl)), (Qmo hok hin), rfl, rfl, rfl, rfl, rfl, rfl, rfl, (Eq.trans rfl (congrArg i64 (X3 hc8))), rfl, rfl, rfl, rfl, rfl, rfl, (by rw [hj0, hj1]; exact (by
     have hT := m27
     try simp only [List.append_assoc, List.cons_append, List.nil_append, List.append_nil] at hT ⊢
     exact hT))⟩
   ·
    have hc22p := of_decide_eq_false hc22
    have hin : ¬ 0 ≤ Ae S ls := hc22p
    refine sR <| Qd (J7 Fj D9 rfl ((Mem.pick2 [_, _] Hsq17 [_] _ m21)).h0) <| Qd (Qo Xl rfl Zg rfl ((Mem.pick4 [_, _] Hsq17 [_] Hrq5 [_] _ m21)).h0 Sv) ?_
    have hF29 : Mem w21 (Qr w0) (([(b8, .cells (Qz (sS S rq17)) 26 (0, 0))] ++ (Hsq17 ++ ([]))) ++ ([(b14, .cells (cl u8 (List.replicate 32 0)) 23 (0, 0)), (b11, .cells (Qz (sH ((Xe ls).c) ((Xe ls).p) ((Xe ls).n))) 53 (0, 0))] ++ (Hrq5 ++ ([(b7, .cells (cl u8 f) 23 (0, 0)), (b4, .cells (Qz (sS S vk)) 26 (0, 0))])))) := by
     have hT := (Mem.pick2 Hsq17 [_] [_] _ (Mem.pick [_, _] Hsq17 _ m21))
     try simp only [List.append_assoc, List.cons_append, List.nil_append, List.append_nil] at hT ⊢
     exact hT
    refine Vw (oc53 (Ci rfl rfl rfl) (c_reach b8 S rq17 Hsq17 (Xe ls) f _ _ (Mem.give hF29) (hT.mono fun b o e => Mem.addRest hF29 e) grq17 sL sL sL sL sL)) ?_
    rintro _ w28 ⟨vqq30, Hqq30, rfl, gqq30, k_w28⟩
    have m28 : Mem w28 (Qr w0) ([(b8, .cells (Qz (sS (Qcf S (Xe ls) f) vqq30)) 26 (0, 0))] ++ (Hqq30 ++ ([(b14, .cells (cl u8 (List.replicate 32 0)) 23 (0, 0)), (b11, .cells (Qz (sH ((Xe ls).c) ((Xe ls).p) ((Xe ls).n))) 53 (0, 0))] ++ (Hrq5 ++ ([(b7, .cells (cl u8 f) 23 (0, 0)), (b4, .cells (Qz (sS S vk)) 26 (0, 0))]))))) := ymA (Mem.back hF29 k_w28)
    refine Zm (Value.tuple #[(agg u8 (Qbz S (Xe ls) f)), (i64 (Pi S (Xe ls) f))]) <| Qd (v := (agg u8 (Qbz S (Xe ls) f))) (Zr rfl rfl) <| Qd (v := (i64 (Pi S (Xe ls) f))) (Zr rfl rfl) <| Vf (Qg (f := u8) (l := Qbz S (Xe ls) f) Qs Zg rfl rfl sL ((Mem.pick2 [_] Hqq30 [_] _ m28)).h0 Sv rfl) ?_
    rintro _ w31 uq31
    have m31 : Mem _ _ ([_, _] ++ (Hqq30 ++ ([_] ++ (Hrq5 ++ ([_, _]))))) := Mem.upd0 (Mem.pick2 [_] Hqq30 [_] _ m28) uq31
    refine Zx (i64 (Pi S (Xe ls) f)) ?_
    refine rN (sR ?_)
    refine Zm (i64 (Pi S (Xe ls) f)) <| Qd (We (b := 0) rfl rfl) <| rN ?_
    refine Zy rfl (fun hc32 => ?_) (fun hc32 => ?_)
    ·
     have hc32p := bne_iff_ne.1 hc32
     refine sR <| Qd (J7 Xt J6 rfl ((Mem.pick5 [_, _] Hqq30 [_] Hrq5 [_] [_] _ m31)).h0) <| Zm (i64 (Pi S (Xe ls) f)) <| Vu m31 (Kt J6 rfl rfl m31.h1 (Fa (RdK.one (RdK.ofRest hk m31)))) fun w33 m33 => Zx Wl <| Zx (i64 (Pi S (Xe ls) f)) ?_
     refine rN (Zz (Yv ?_))
     refine Qp [(Value.agg (Qz (sS S vk))), Wl, (i64 (Pi S (Xe ls) f))] ⟨⟨_, rfl, Jr Xt J6 m33.h1⟩, rfl, rfl, trivial⟩ ?_
     have m34 := Mem.drop [_] _ m33
     have m35 := Mem.drop [_] _ m34
     have m36 := Mem.drop Hqq30 _ m35
     have m37 := Mem.drop [_] _ m36
     have m38 := Mem.drop Hrq5 _ m37
     have m39 := Mem.drop [_] _ m38
     have m40 := Mem.drop [_] _ m39
     obtain ⟨ho1, ho2, ho3, ho4⟩ := Qk1 (b := lb) (Qjw hok hin) (bne_iff_ne.1 hc32)
     rw [ho1, ho2, ho3, ho4]
     exact ⟨Value.slice none 0 0, [], Value.slice none 0 0, [], by rw [if_neg (bne_iff_ne.1 hc32)]; rfl, Yx.none Y3 65 69, Z5.none u8 5, by simpa using m40⟩
    ·
     have hc32p := X3 hc32
     refine Qn (Qc ?_)
     have hj0 := Ql7 (f := f) hin
     have hj1 := Qjf (f := f) hin
     have m41 := (Mem.pick5 [_, _] Hqq30 [_] Hrq5 [_] [_] _ m31)
     have m42 := (Mem.pick4 [_, _, _] Hqq30 [_] Hrq5 [_] _ m41)
     have m43 := (Mem.pick3 [_, _, _, _] Hqq30 [_] Hrq5 _ m42)
     have m44 := (Mem.pick3 Hrq5 [_, _, _, _] Hqq30 [_] _ m43)
     have m45 := (Mem.pick3 [_] Hrq5 [_, _] [_] _ m44)
     have m46 := (Mem.pick3 [_, _] Hrq5 [_, _, _] Hqq30 _ m45)
     have m47 := (Mem.pick4 Hqq30 [_, _] Hrq5 [_, _] [_] _ m46)
     exact ⟨vqq30, Hqq30, (by rw [hj0]; exact gqq30), ((Qjw hok hin).trans (X3 hc32)), rfl, rfl, rfl, rfl, rfl, rfl, rfl, (Eq.trans rfl (congrArg i64 (X3 hc32))), rfl, rfl, rfl, rfl, rfl, rfl, (by rw [hj0, hj1]; exact (by
      have hT := m47
      try simp only [List.append_assoc, List.cons_append, List.nil_append, List.append_nil] at hT ⊢
      exact hT))⟩
  rintro fr48 w49 ⟨vj, Hj, gj, hd1, s0, s1, s2, s3, s4, s7, s8, s10, s11, s12, s13, s14, s22, s35, m49⟩
  refine Qa <| J4 Xo ?_
  have hFM50 : Mem w49 (Qr w0) ([] ++ ([(b8, .cells (Qz (sS (Qb0 S ls f) vj)) 26 (0, 0))] ++ (Hj ++ ([(b14, .cells (cl u8 (N7 S ls f)) 23 (0, 0)), (b11, .cells (Qz (sH ((Xe ls).c) ((Xe ls).p) ((Xe ls).n))) 53 (0, 0))] ++ (Hrq5 ++ ([(b7, .cells (cl u8 f) 23 (0, 0)), (b4, .cells (Qz (sS S vk)) 26 (0, 0))])))))) := m49
  obtain ⟨RM50, hRM50⟩ : ∃ R2, R2 = Rest.add (Qr w0) ([(b8, .cells (Qz (sS (Qb0 S ls f) vj)) 26 (0, 0))] ++ (Hj ++ ([(b14, .cells (cl u8 (N7 S ls f)) 23 (0, 0)), (b11, .cells (Qz (sH ((Xe ls).c) ((Xe ls).p) ((Xe ls).n))) 53 (0, 0))] ++ (Hrq5 ++ ([(b7, .cells (cl u8 f) 23 (0, 0)), (b4, .cells (Qz (sS S vk)) 26 (0, 0))]))))) := ⟨_, rfl⟩
  have M500 : Mem w49 RM50 [] := by rw [hRM50]; exact Mem.give hFM50
  have hr51 : Rd RM50.blk u8 vb lb := by rw [hRM50]; exact Rd.mono hrb fun b o e => Mem.addRest hFM50 e
  have hr52 : Rd RM50.blk u8 vs ls := by rw [hRM50]; exact Rd.mono hrs fun b o e => Mem.addRest hFM50 e
  have hg53 : Rd RM50.blk u8 vrq5 (hdR ls) := grq5.rdIn (fun p hp => by rw [hRM50]; exact Mem.addOwn hFM50 (List.mem_append_right _ (List.mem_append_right _ (List.mem_append_right _ (List.mem_append_left _ hp)))))
  have ho54 : RM50.blk b8 = some (.cells (Qz (sS (Qb0 S ls f) vj)) 26 (0, 0)) := by rw [hRM50]; exact Mem.addOwn hFM50 (List.mem_append_left _ (List.Mem.head _))
  have hg55 : RdK RM50.blk Y3 65 vj ((Qb0 S ls f).ks) := gj.rdIn (fun p hp => by rw [hRM50]; exact Mem.addOwn hFM50 (List.mem_append_right _ (List.mem_append_left _ hp)))
  have ho56 : RM50.blk b14 = some (.cells (cl u8 (N7 S ls f)) 23 (0, 0)) := by rw [hRM50]; exact Mem.addOwn hFM50 (List.mem_append_right _ (List.mem_append_right _ (List.mem_append_left _ (List.Mem.head _))))
  have ho57 : RM50.blk b11 = some (.cells (Qz (sH ((Xe ls).c) ((Xe ls).p) ((Xe ls).n))) 53 (0, 0)) := by rw [hRM50]; exact Mem.addOwn hFM50 (List.mem_append_right _ (List.mem_append_right _ (List.mem_append_left _ (List.Mem.tail _ (List.Mem.head _)))))
  have ho58 : RM50.blk b7 = some (.cells (cl u8 f) 23 (0, 0)) := by rw [hRM50]; exact Mem.addOwn hFM50 (List.mem_append_right _ (List.mem_append_right _ (List.mem_append_right _ (List.mem_append_right _ (List.Mem.head _)))))
  have ho59 : RM50.blk b4 = some (.cells (Qz (sS S vk)) 26 (0, 0)) := by rw [hRM50]; exact Mem.addOwn hFM50 (List.mem_append_right _ (List.mem_append_right _ (List.mem_append_right _ (List.mem_append_right _ (List.Mem.tail _ (List.Mem.head _))))))
  have hr60 : RdK RM50.blk Y3 65 vk S.ks := by rw [hRM50]; exact RdK.mono hk fun b o e => Mem.addRest hFM50 e
  have hT61 : Tabs RM50.blk := by rw [hRM50]; exact Tabs.mono hT fun b o e => Mem.addRest hFM50 e
  refine Dv M500 [(0, false), (1, false), (2, false), (4, false), (5, false), (7, false), (3, true), (6, true), (8, true), (9, false), (10, false), (11, false), (12, false)] 13 rfl Xo <| yqH rfl (fun w _H _hx => Qo Xl rfl Zg s14 (_hx.rest _ _ ho56) Sv) <| Ns rfl (Kw (ps := []) (c := (cl u8 (List.replicate 12 0))) Qbl Po Yw Ya rfl) <| Ns rfl (Yh s1) <| Ns rfl (Yh s2) <| yqH rfl (fun w _H _hx => Y6 (i := 0) (j := 40) (Rd.ofRest hr52 _hx) Zo Yw rfl (Zd _ _) (Yd (k := .i64) (i := 40) rfl) oM sL sL) <| Ns rfl (Yh s12) ?_
  refine Qe6 rfl rfl (fun w62 e62 => ?_)
  have m62 := M500.ext e62
  refine Wu.mono (oc34 (Jv rfl) (Qcr vb lb _ (Rd.ofRest hr51 m62) sL)) ?_
  rintro rq64 w63 ⟨Hsq64, grq64, k_w63⟩
  have m63 : Mem _ _ (Hsq64 ++ ([])) := Mem.new (H := []) (H' := Hsq64) m62 k_w63
  refine ⟨⟨_, m63⟩, ?_⟩
  refine Qe6 rfl rfl (fun w65 e65 => ?_)
  have m65 := m63.ext e65
  refine Wu.mono (Xf (f := u8) (Hs := Hsq64) (H := []) m65 grq64 rfl rfl (Rd.cast (l' := (ls.drop 0).take 40) (Rd.sub (Rd.ofRest hr52 m65) oM sL sL) rfl) Zo Zo Yw rfl Qs sL sL) ?_
  rintro sv66 w66 ⟨Hs66, m66, g66⟩
  replace g66 : Z5 u8 5 sv66 (lb ++ ((ls.drop 0).take 40)) Hs66 := g66
  refine ⟨⟨_, m66⟩, ?_⟩
  refine Qe6 rfl rfl (fun w67 e67 => ?_)
  have m67 := m66.ext e67
  refine Wu.mono (oc54 (Tm rfl rfl rfl rfl) (c_open _ _ sv66 (lb ++ ((ls.drop 0).take 40)) vrq5 (hdR ls) _ (hT61.mono fun b o e => (m67).rest b o e) sL sL (g66.rd m67) sL (Rd.ofRest hg53 m67) sL)) ?_
  rintro _ w68 ⟨vxq69, Hsq69, rfl, gvxq69, k_w68⟩
  have m68 : Mem _ _ (Hsq69 ++ (Hs66 ++ ([]))) := Mem.new (H := Hs66 ++ ([])) (H' := Hsq69) m67 k_w68
  refine ⟨⟨_, m68⟩, ?_⟩
  refine Ns rfl (Yh rfl) <| Ns (v := vxq69) rfl (Zr rfl rfl) <| Ns (v := (i64 (Qaw (N7 S ls f) (List.replicate 12 0) (lb ++ ((ls.drop 0).take 40)) (hdR ls)))) rfl (Zr rfl rfl) <| Ns rfl (Ud (v := vxq69) rfl) <| Gf m68 fun w70 m70 => ?_
  have hX71 := m70
  rw [hRM50] at hX71
  have m72 : Mem w70 (Qr w0) (Hsq69 ++ (Hs66 ++ ([(b8, .cells (Qz (sS (Qb0 S ls f) vj)) 26 (0, 0))] ++ (Hj ++ ([(b14, .cells (cl u8 (N7 S ls f)) 23 (0, 0)), (b11, .cells (Qz (sH ((Xe ls).c) ((Xe ls).p) ((Xe ls).n))) 53 (0, 0))] ++ (Hrq5 ++ ([(b7, .cells (cl u8 f) 23 (0, 0)), (b4, .cells (Qz (sS S vk)) 26 (0, 0))]))))))) := ymA (Mem.back hFM50 hX71)
  refine yqA rfl ?_
  refine rN (Qa (sR ?_))
  refine Yb rfl <| Qd (We (b := 0) rfl rfl) <| rN ?_
  refine Zy rfl (fun hc73 => ?_) (fun hc73 => ?_)
  ·
   have hc73p := bne_iff_ne.1 hc73
   refine sR <| Qd (J7 Xt J6 s4 ((Mem.pick7 Hsq69 Hs66 [_] Hj [_, _] Hrq5 [_] [_] _ m72)).h0) <| Yb rfl <| Vf (Kt J6 s8 rfl ((Mem.pick2 Hsq69 Hs66 [_] _ m72)).h0 (Fa (RdK.one (RdK.ofRest hk m72)))) ?_
   rintro _ w74 uq74
   have m74 : Mem _ _ ([_] ++ (Hsq69 ++ (Hs66 ++ (Hj ++ ([_, _] ++ (Hrq5 ++ ([_, _]))))))) := Mem.upd0 (Mem.pick2 Hsq69 Hs66 [_] _ m72) uq74
   refine Zx Wl <| yqA rfl ?_
   refine rN (Zz (Yv ?_))
   refine Qp [(Value.agg (Qz (sS S vk))), Wl, (i64 (Qaw (N7 S ls f) (List.replicate 12 0) (lb ++ ((ls.drop 0).take 40)) (hdR ls)))] ⟨⟨_, s8, Jr Xt J6 m74.h0⟩, rfl, rfl, trivial⟩ ?_
   have hon : Qdf (N7 S ls f) lb ls = (Qaw (N7 S ls f) (List.replicate 12 0) (lb ++ ((ls.drop 0).take 40)) (hdR ls)) := by unfold Qdf; rw [← hrr]; rfl
   have m75 := Mem.drop [_] _ m74
   have m76 := Mem.drop Hsq69 _ m75
   have m77 := Mem.drop Hs66 _ m76
   have m78 := Mem.drop Hj _ m77
   have m79 := Mem.drop [_] _ m78
   have m80 := Mem.drop [_] _ m79
   have m81 := Mem.drop Hrq5 _ m80
   have m82 := Mem.drop [_] _ m81
   have m83 := Mem.drop [_] _ m82
   obtain ⟨ho1, ho2, ho3, ho4⟩ := out_2 hd1 (by rw [hon]; exact bne_iff_ne.1 hc73)
   rw [ho1, ho2, ho3, ho4]
   exact ⟨Value.slice none 0 0, [], Value.slice none 0 0, [], by rw [if_neg (by rw [hon]; exact bne_iff_ne.1 hc73)]; rw [hon]; rfl, Yx.none Y3 65 69, Z5.none u8 5, by simpa using m83⟩
  ·
   have hc73p := X3 hc73
   refine Qn (Qc (sR ?_))
   refine Qd (J7 Xt J6 s8 ((Mem.pick2 Hsq69 Hs66 [_] _ m72)).h0) <| Zm vxq69 <| Vf (Kt J6 s8 rfl ((Mem.pick2 Hsq69 Hs66 [_] _ m72)).h0 (Fa gj.one)) ?_
   rintro _ w84 uq84
   have m84 : Mem _ _ ([_] ++ (Hsq69 ++ (Hs66 ++ (Hj ++ ([_, _] ++ (Hrq5 ++ ([_, _]))))))) := Mem.upd0 (Mem.pick2 Hsq69 Hs66 [_] _ m72) uq84
   refine Zx vxq69 <| Zx (i64 0) ?_
   refine rN (Zz ?_)
   refine Qp [(Value.agg (Qz (sS (Qb0 S ls f) vj))), vxq69, (i64 0)] ⟨⟨_, s8, Jr Xt J6 m84.h0⟩, rfl, rfl, trivial⟩ ?_
   have hon : Qdf (N7 S ls f) lb ls = (Qaw (N7 S ls f) (List.replicate 12 0) (lb ++ ((ls.drop 0).take 40)) (hdR ls)) := by unfold Qdf; rw [← hrr]; rfl
   have m85 := Mem.drop [_] _ m84
   have m86 := Mem.drop Hs66 _ (Mem.pick Hsq69 Hs66 _ m85)
   have m87 := Mem.drop [_] _ (Mem.pick2 Hsq69 Hj [_] _ m86)
   have m88 := Mem.drop [_] _ (Mem.pick2 Hsq69 Hj [_] _ m87)
   have m89 := Mem.drop Hrq5 _ (Mem.pick2 Hsq69 Hj Hrq5 _ m88)
   have m90 := Mem.drop [_] _ (Mem.pick2 Hsq69 Hj [_] _ m89)
   have m91 := Mem.drop [_] _ (Mem.pick2 Hsq69 Hj [_] _ m90)
   have m92 := (Mem.pick Hsq69 Hj _ m91)
   obtain ⟨ho1, ho2, ho3, ho4⟩ := out_3 hd1 (by rw [hon]; exact X3 hc73)
   rw [ho1, ho2, ho3, ho4]
   exact ⟨vj, Hj, vxq69, Hsq69, by rw [if_pos rfl]; rfl, gj, Z5.cast gvxq69 (by unfold opnP; rw [← hrr]; rfl), (by
    have hT := m92
    try simp only [List.append_assoc, List.cons_append, List.nil_append, List.append_nil] at hT ⊢
    exact hT)⟩
end Go.Proofs.YtkmiemlpfkfiiaaDoor
