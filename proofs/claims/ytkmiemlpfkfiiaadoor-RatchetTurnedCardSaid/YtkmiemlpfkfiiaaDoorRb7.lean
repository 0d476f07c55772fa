/- The ratchet: what is deciphered (the code). Conditions: none beyond those that each theorem states. -/
import Derived.Test.YtkmiemlpfkfiiaaDoorRb5
import Derived.Test.YtkmiemlpfkfiiaaDoorRb6
namespace Go.Proofs.YtkmiemlpfkfiiaaDoor
open List renaming append_assoc → aQ, append_nil → aZ, cons_append → aW, mem_append_left → aS, mem_append_right → aG, nil_append → aX, replicate → aA
open List.Mem renaming head → aU, tail → aH
open Mem renaming addOwn → ae, addRest → bV, back → dJ, drop → aF, give → dI, new → bY, pick → aC, pick2 → aN, pick3 → ai, pick4 → dO, pick5 → dn, upd0 → bM
open Rd renaming ofRest → aK
open RdK renaming ofRest → af, one → eU
open Value renaming agg → aO, slice → bK, tuple → ak
open Tryd
set_option linter.unusedVariables false
set_option linter.unusedSimpArgs false
def Cm (S : Sn) (s : Z4) : Int := V5 S.ks (Xf s).c (Xf s).n
def Qds (S : Sn) (s f : Z4) : Int := if Ns s then (if 0 ≤ Cm S s then 0 else Nq S (Xf s) f) else 3
def Nk (S : Sn) (s f : Z4) : Z4 := if 0 ≤ Cm S s then (S.ks.getD (Cm S s).toNat Dz).k else Qbd S (Xf s) f
def Sn.cutK (S : Sn) (i : Nat) : Sn := ⟨S.r, S.w, S.o, S.sb, S.tb, S.s, S.t, S.n1, S.n2, S.n3, S.ks.take i ++ S.ks.drop (i + 1), S.hr, S.hw, S.ho, S.hs, S.ht⟩
def Qbt (S : Sn) (s f : Z4) : Sn := if 0 ≤ Cm S s then S.cutK (Cm S s).toNat else Qbq S (Xf s) f
def Qcy (k b s : Z4) : Int := Su k (aA 12 0) (b ++ s.take 40) (s.drop 40)
def opnP (k b s : Z4) : Z4 := Td k (aA 12 0) (b ++ s.take 40) (s.drop 40)
def Ez (S : Sn) (b s f : Z4) : Int := if Qds S s f = 0 then Qcy (Nk S s f) b s else Qds S s f
def Sv (S : Sn) (b s f : Z4) : Z4 := if Ez S b s f = 0 then opnP (Nk S s f) b s else []
def Bo (S : Sn) (b s f : Z4) : Sn := if Ez S b s f = 0 then Qbt S s f else S
def Qho (S : Sn) (b s f : Z4) : List Kp := if Ez S b s f = 0 then (Qbt S s f).ks else []
section
variable {S : Sn} {b s f : Z4}
theorem Qfc (h : Ez S b s f ≠ 0) : Bo S b s f = S ∧ Sv S b s f = [] ∧ Qho S b s f = [] := by
 refine ⟨?_, ?_, ?_⟩
 ·unfold Bo; rw [if_neg h]
 ·unfold Sv; rw [if_neg h]
 unfold Qho; rw [if_neg h]
theorem dec_z (h : Ez S b s f = 0) : Bo S b s f = Qbt S s f ∧ Sv S b s f = opnP (Nk S s f) b s ∧ Qho S b s f = (Qbt S s f).ks := by
 refine ⟨?_, ?_, ?_⟩
 ·unfold Bo; rw [if_pos h]
 ·unfold Sv; rw [if_pos h]
 unfold Qho; rw [if_pos h]
theorem Qsr (h : Ns s = false) : Qds S s f = 3 := by unfold Qds; rw [h]; rfl
theorem Qnp (h : Ns s = true) (h1 : 0 ≤ Cm S s) : Qds S s f = 0 := by unfold Qds; rw [h, if_pos h1]; rfl
theorem Qgt (h : Ns s = true) (h1 : ¬ 0 ≤ Cm S s) : Qds S s f = Nq S (Xf s) f := by unfold Qds; rw [h, if_neg h1]; rfl
theorem decE_1 (h : Qds S s f ≠ 0) : Ez S b s f = Qds S s f := by unfold Ez; rw [if_neg h]
theorem Qrd (h : Qds S s f = 0) : Ez S b s f = Qcy (Nk S s f) b s := by unfold Ez; rw [if_pos h]
theorem Qnc (h1 : 0 ≤ Cm S s) : Nk S s f = (S.ks.getD (Cm S s).toNat Dz).k := by unfold Nk; rw [if_pos h1]
theorem Qgc (h1 : ¬ 0 ≤ Cm S s) : Nk S s f = Qbd S (Xf s) f := by unfold Nk; rw [if_neg h1]
theorem Qo6 : (Nk S s f).length = 32 := by unfold Nk; split; exact Kp.hk _; exact Qju _ _ _
theorem Qqi (h1 : 0 ≤ Cm S s) : Qbt S s f = S.cutK (Cm S s).toNat := by unfold Qbt; rw [if_pos h1]
theorem Qiz (h1 : ¬ 0 ≤ Cm S s) : Qbt S s f = Qbq S (Xf s) f := by unfold Qbt; rw [if_neg h1]
theorem Qna : (Qbt S s f).ks.length ≤ S.ks.length + 4000 := by
 unfold Qbt; split
 ·show (S.ks.take _ ++ S.ks.drop _).length ≤ _
  rw [List.length_append, List.length_take, List.length_drop]; omega
 exact rchS_len _ _ _
theorem Qlq {e : Int} (h : Qds S s f = e) (hz : e ≠ 0) : Ez S b s f = e ∧ Bo S b s f = S ∧ Sv S b s f = [] ∧ Qho S b s f = [] := by
 have h1 : Ez S b s f = e := by rw [decE_1 (by rw [h]; exact hz), h]
 exact ⟨h1, Qfc (by rw [h1]; exact hz)⟩
theorem out_2 (h : Qds S s f = 0) (hz : Qcy (Nk S s f) b s ≠ 0) : Ez S b s f = Qcy (Nk S s f) b s ∧ Bo S b s f = S ∧ Sv S b s f = [] ∧ Qho S b s f = [] := by
 have h1 := Qrd (b := b) h
 exact ⟨h1, Qfc (by rw [h1]; exact hz)⟩
theorem out_3 (h : Qds S s f = 0) (hz : Qcy (Nk S s f) b s = 0) : Ez S b s f = 0 ∧ Bo S b s f = Qbt S s f ∧ Sv S b s f = opnP (Nk S s f) b s ∧ Qho S b s f = (Qbt S s f).ks := by
 have h1 := (Qrd (b := b) h).trans hz
 exact ⟨h1, dec_z h1⟩
end
theorem RdK.ite {α : Type} {enc : α → List Value} {k : Nat} {m : Nat → Option Obj} {p : Prop} [Decidable p] {u v : Value} {l : List α} (h1 : p → RdK m enc k u l) (h2 : ¬ p → RdK m enc k v l) : RdK m enc k (if p then u else v) l := by
 split
 ·exact h1 ‹_›
 exact h2 ‹_›
theorem hdE_0 {b : Z4} (h : hdE b = 0) : Ns b = true := by
 cases e : Ns b with
 | true => rfl
 | false => rw [(Qj8 e).2.1] at h; exact absurd h Yx
theorem hdE_3 {b : Z4} (h : hdE b ≠ 0) : Ns b = false ∧ hdE b = 3 := by
 cases e : Ns b with
 | false => exact ⟨rfl, (Qj8 e).2.1⟩
 | true => exact absurd (Qe9 e).2.1 h
theorem Qfd {S : Sn} {b s f : Z4} (h : Ez S b s f = 0) : Qho S b s f = (Bo S b s f).ks := by rw [(dec_z h).1, (dec_z h).2.2]
theorem Qfe {S : Sn} {b s f : Z4} (h : Ez S b s f ≠ 0) : S.ks = (Bo S b s f).ks := by rw [(Qfc h).1]
theorem Qsq {S : Sn} {b s f : Z4} : (Sv S b s f).length ≤ s.length := by
 unfold Sv; split
 ·unfold opnP; refine Nat.le_trans (openQ_le _ _ _ _) ?_; rw [List.length_drop]; omega
 exact Nat.zero_le _
theorem decN_len {S : Sn} {b s f : Z4} : (Bo S b s f).ks.length ≤ S.ks.length + 4000 := by
 unfold Bo; split
 ·exact Qna
 omega
theorem Qre (S : Sn) (i : Nat) : (S.cutK i).ks = S.ks.take i ++ S.ks.drop (i + 1) := rfl
attribute [local irreducible] Si We Eg X8 Y7 Ba Wh Wv Kw Xc Gv Gn Zu Yn Yy F7 Ns Xf hdR hdE V5 Su Td Nq Qbq Qbd Jo
set_option maxHeartbeats 2000000 in
theorem Qs5 (S : Sn) (vk : Value) (vb : Value) (lb : Z4) (vs : Value) (ls : Z4) (f : Z4) (w0 : World)  (hT : Tabs (Jd w0)) (hk : RdK (Jd w0) Jl 65 vk S.ks) (hrb : Rd (Jd w0) u8 vb lb) (hlb : lb.length ≤ 90000) (hrs : Rd (Jd w0) u8 vs ls) (hls : ls.length ≤ 90000) (hfl : f.length = 32) (hn2 : 0 ≤ S.n2 ∧ S.n2 ≤ 2147483647) (hkl : S.ks.length ≤ 5000) : Xz prog 25 #[(aO (Qy (sS S vk))), vb, vs, (agg u8 f)] w0 (fun r w1 => ∃ vq Hq vp Hp, r = ak #[(aO (Qy (sS (Bo S lb ls f) (if Ez S lb ls f = 0 then vq else vk)))), vp, i64 (Ez S lb ls f)] ∧ Yu Jl 65 69 vq (Qho S lb ls f) Hq ∧ Z9 u8 5 vp (Sv S lb ls f) Hp ∧ Mem w1 (Qs w0) (Hq ++ Hp)) := by
 refine Qz (args := [(aO (Qy (sS S vk))), vb, vs, (agg u8 f)]) func25 rfl ntmps25 results25 rfl ?_
 have m0 : Mem w0 (Qs w0) [] := Mem.of_world w0
 have hhc := (Xf ls).hc
 have hkal := Qo6 (S := S) (s := ls) (f := f)
 have hmll := Qna (S := S) (s := ls) (f := f)
 have hrkl := Qju S (Xf ls) f
 refine sR <| Y5 (Fz (cs := (Qy (sS S vk))) m0 rfl) fun w1 b4 m1 => Y5 (Z5 (f := u8) (l := f) m1 rfl) fun w2 b7 m2 => Y5 (Ju m2 J5) fun w3 b8 m3 => Zx J3 <| Zx (i64 0) ?_
 refine rN (sR ?_)
 refine Zm vs <| Vr (oc23 (Jz rfl) (c_head19 vs ls _ (aK hrs m3) sL)) ?_
 rintro _ w4 ⟨vrq5, Hrq5, rfl, grq5, k_w4⟩
 have m4 : Mem _ _ (Hrq5 ++ ([_, _, _])) := bY (H := [_, _, _]) (H' := Hrq5) m3 k_w4
 refine X9 rfl <| Qd (v := (aO (Qy (sH ((Xf ls).c) ((Xf ls).p) ((Xf ls).n))))) (Zr rfl rfl) <| Qd (v := vrq5) (Zr rfl rfl) <| Qd (v := (i64 (hdE ls))) (Zr rfl rfl) <| Y5 (Ju m4 Aq) fun w6 b11 m6 => Ye m6 (Ko Aq rfl rfl m6.h0 (Ym (Jf Qr _) (Ym (X0 (Zw _) J6) (Ym (X0 (Zw _) J6) U6)))) fun w7 m7 => Zx vrq5 <| Zx (i64 (hdE ls)) ?_
 refine rN (Qa (sR ?_))
 refine Zm (i64 (hdE ls)) <| Qd (Kz (b := 0) rfl rfl) <| rN ?_
 refine Zz rfl (fun hc8 => ?_) (fun hc8 => ?_)
 ·
  have hc8p := bne_iff_ne.1 hc8
  refine sR <| Qd (Ky Yc J5 rfl ((ai [_] Hrq5 [_, _] [_] _ m7)).h0) <| Zm (i64 (hdE ls)) <| Vd (Ko J5 rfl rfl ((aN [_] Hrq5 [_] _ m7)).h0 (Ur (eU (af hk m7)))) ?_
  rintro _ w9 uq9
  have m9 : Mem _ _ ([_, _] ++ (Hrq5 ++ ([_, _]))) := bM (aN [_] Hrq5 [_] _ m7) uq9
  refine Zx J3 <| Zx (i64 (hdE ls)) ?_
  refine rN (Z8 (Yz ?_))
  refine Qq [(aO (Qy (sS S vk))), J3, (i64 (hdE ls))] ⟨⟨_, rfl, Jq Yc J5 m9.h0⟩, rfl, rfl, trivial⟩ ?_
  have m10 := aF [_] _ m9
  have m11 := aF [_] _ m10
  have m12 := aF Hrq5 _ m11
  have m13 := aF [_] _ m12
  have m14 := aF [_] _ m13
  obtain ⟨ho1, ho2, ho3, ho4⟩ := Qlq (b := lb) (Qsr (f := f) (S := S) (hdE_3 (bne_iff_ne.1 hc8)).1) Yx
  rw [ho1, ho2, ho3, ho4]
  exact ⟨bK none 0 0, [], bK none 0 0, [], by rw [if_neg Yx]; rw [(hdE_3 (bne_iff_ne.1 hc8)).2]; rfl, Yu.none Jl 65 69, Z9.none u8 5, by simpa using m14⟩
 ·
  have hc8p := Yd hc8
  have hok := hdE_0 (Yd hc8)
  obtain ⟨hl40, hhp, hhn⟩ := hd_of hok
  have hrr := (Qe9 hok).2.2
  have hrl : (hdR ls).length = ls.length - 40 := by rw [hrr, List.length_drop]
  refine Qo (Qc (sR ?_))
  refine Qd (Ky Yc J5 rfl ((ai [_] Hrq5 [_, _] [_] _ m7)).h0) <| Vd (Ko J5 rfl rfl ((aN [_] Hrq5 [_] _ m7)).h0 (Ur (eU (af hk m7)))) ?_
  rintro _ w15 uq15
  have m15 : Mem _ _ ([_, _] ++ (Hrq5 ++ ([_, _]))) := bM (aN [_] Hrq5 [_] _ m7) uq15
  refine rN (sR ?_)
  refine Qd (Zl (r := 165) Yc rfl Jj Ar rfl rfl) <| Qd (Y2 10 Gi rfl ((ai [_, _] Hrq5 [_] [_] _ m15)).h0 rfl) <| Vr (oc29 (Jz rfl) (Qpt vk S.ks _ (af hk m15) sL)) ?_
  rintro rq17 w16 ⟨Hsq17, grq17, k_w16⟩
  have m16 : Mem _ _ (Hsq17 ++ ([_, _] ++ (Hrq5 ++ ([_, _])))) := bY (H := [_, _] ++ (Hrq5 ++ ([_, _]))) (H' := Hsq17) m15 k_w16
  refine Qd (Zl (r := 165) Yc rfl Jj Ar rfl rfl) <| Vd (Ud 10 (sS S rq17) Ar rfl rfl grq17.one ((aC Hsq17 [_] _ m16)).h0 rfl rfl) ?_
  rintro _ w18 uq18
  have m18 : Mem _ _ ([_] ++ (Hsq17 ++ ([_] ++ (Hrq5 ++ ([_, _]))))) := bM (aC Hsq17 [_] _ m16) uq18
  refine rN (sR ?_)
  refine Qd (Zl (r := 165) Yc rfl Jj Ar rfl rfl) <| Qd (Y2 10 Gi rfl m18.h0 rfl) <| Qd (Qie (Jz rfl)) <| U5 m18 (oc50 (Xl rfl rfl) (c_findK rq17 S.ks b11 ((Xf ls).c) ((Xf ls).p) ((Xf ls).n) _ (grq17.rd (aC [_] Hsq17 _ m18)) sL ((aN [_] Hsq17 [_] _ m18)).h0 sL)) fun w19 m19 => Zx (i64 (V5 S.ks ((Xf ls).c) ((Xf ls).n))) ?_
  refine rN (sR ?_)
  refine Y5 (Q7 m19 Zh) fun w21 b14 m21 => ?_
  refine rN (Qa (sR ?_))
  refine Zm (i64 (V5 S.ks ((Xf ls).c) ((Xf ls).n))) <| Qd (Ey (b := 0) rfl rfl) <| rN ?_
  refine Ri (J := fun g wv => ∃ (vj : Value) (Hj : List (Nat × Obj)), (Yu Jl 65 69 vj (Qbt S ls f).ks Hj) ∧ (Qds S ls f = 0) ∧ g 0 = (aO (Qy (sS S vk))) ∧ g 1 = vb ∧ g 2 = vs ∧ g 3 = (agg u8 f) ∧ g 4 = (ptr b4 0) ∧ g 7 = (ptr b7 0) ∧ g 8 = (ptr b8 0) ∧ g 10 = (i64 0) ∧ g 11 = (ptr b11 0) ∧ g 12 = vrq5 ∧ g 13 = (i64 (V5 S.ks ((Xf ls).c) ((Xf ls).n))) ∧ g 14 = (ptr b14 0) ∧ g 22 = (bl ((hdE ls) != 0)) ∧ g 35 = (bl (decide (0 ≤ (V5 S.ks ((Xf ls).c) ((Xf ls).n))))) ∧ Mem wv (Qs w0) ([(b8, .cells (Qy (sS (Qbt S ls f) vj)) 26 (0, 0))] ++ (Hj ++ ([(b14, .cells (cl u8 (Nk S ls f)) 23 (0, 0)), (b11, .cells (Qy (sH ((Xf ls).c) ((Xf ls).p) ((Xf ls).n))) 53 (0, 0))] ++ (Hrq5 ++ ([(b7, .cells (cl u8 f) 23 (0, 0)), (b4, .cells (Qy (sS S vk)) 26 (0, 0))])))))) ?_ ?_
  ·skip
   refine Zz rfl (fun hc22 => ?_) (fun hc22 => ?_)
   ·
    have hc22p := of_decide_eq_true hc22
    have hin : 0 ≤ Cm S ls := hc22p
    obtain ⟨i, hi1, hi2⟩ : ∃ i : Nat, V5 S.ks (Xf ls).c (Xf ls).n = i ∧ i < S.ks.length := (find_ge).resolve_left oM
    have hkk := (S.ks.getD (V5 S.ks (Xf ls).c (Xf ls).n).toNat Dz).hk
    refine sR <| Qd (Zl (r := 165) Yc rfl Jj Ar rfl rfl) <| Qd (Y2 10 Gi rfl m21.h1 rfl) <| Zm (i64 (V5 S.ks ((Xf ls).c) ((Xf ls).n))) <| Qd (Y4 (i := V5 S.ks ((Xf ls).c) ((Xf ls).n)) (grq17.rd (aC [_, _] Hsq17 _ m21)) Gi Ac rfl rfl oM sL) <| Qd (Qgo (i := V5 S.ks ((Xf ls).c) ((Xf ls).n)) (grq17.rd (aC [_, _] Hsq17 _ m21)) sL Qez rfl Jj Zh rfl rfl) <| Qd (v := (agg u8 ((S.ks.getD ((V5 S.ks ((Xf ls).c) ((Xf ls).n) : Int).toNat) Dz).k))) (Ah (i := V5 S.ks ((Xf ls).c) ((Xf ls).n)) (dflt := Dz) (cs := (cl u8 ((S.ks.getD ((V5 S.ks ((Xf ls).c) ((Xf ls).n) : Int).toNat) Dz).k))) (grq17.rd (aC [_, _] Hsq17 _ m21)) sL Xn rfl Zh rfl rfl Yx (kp_k (S.ks.getD ((V5 S.ks ((Xf ls).c) ((Xf ls).n) : Int).toNat) Dz))) <| Ye m21 (Qg (f := u8) (l := (S.ks.getD ((V5 S.ks ((Xf ls).c) ((Xf ls).n) : Int).toNat) Dz).k) Qr Zh rfl rfl sL m21.h0 Ph rfl) fun w23 m23 => ?_
    refine rN (Qb ?_)
    refine Qd (Zl (r := 165) Yc rfl Jj Ar rfl rfl) <| Qd (Y2 10 Gi rfl m23.h1 rfl) <| Zm (i64 (V5 S.ks ((Xf ls).c) ((Xf ls).n))) <| Zm (i64 (V5 S.ks ((Xf ls).c) ((Xf ls).n))) <| Qd (Zg (b := 1) rfl rfl oM oM) ?_
    have hF25 : Mem w23 (Qs w0) ((Hsq17 ++ ([])) ++ ([(b14, .cells (cl u8 ((S.ks.getD ((V5 S.ks ((Xf ls).c) ((Xf ls).n) : Int).toNat) Dz).k)) 23 (0, 0)), (b8, .cells (Qy (sS S rq17)) 26 (0, 0)), (b11, .cells (Qy (sH ((Xf ls).c) ((Xf ls).p) ((Xf ls).n))) 53 (0, 0))] ++ (Hrq5 ++ ([(b7, .cells (cl u8 f) 23 (0, 0)), (b4, .cells (Qy (sS S vk)) 26 (0, 0))])))) := by
     have hT := (aC [_, _] Hsq17 _ m23)
     try simp only [aQ, aW, aX, aZ] at hT ⊢
     exact hT
    refine Vr (oc52 (Dy rfl rfl rfl) (c_delK rq17 S.ks Hsq17 (V5 S.ks ((Xf ls).c) ((Xf ls).n)) ((V5 S.ks ((Xf ls).c) ((Xf ls).n)) + 1) _ _ (dI hF25) grq17 (by refine ⟨?_, ?_, ?_⟩ <;> first | omega | (simp; omega)) sL)) ?_
    rintro rq26 w24 ⟨Hqq26, grq26, k_w24⟩
    have m24 : Mem w24 (Qs w0) (Hqq26 ++ ([(b14, .cells (cl u8 ((S.ks.getD ((V5 S.ks ((Xf ls).c) ((Xf ls).n) : Int).toNat) Dz).k)) 23 (0, 0)), (b8, .cells (Qy (sS S rq17)) 26 (0, 0)), (b11, .cells (Qy (sH ((Xf ls).c) ((Xf ls).p) ((Xf ls).n))) 53 (0, 0))] ++ (Hrq5 ++ ([(b7, .cells (cl u8 f) 23 (0, 0)), (b4, .cells (Qy (sS S vk)) 26 (0, 0))])))) := ymA (dJ hF25 k_w24)
    refine Qd (Zl (r := 165) Yc rfl Jj Ar rfl rfl) <| Vd (Ud 10 (sS S rq26) Ar rfl rfl grq26.one ((aN Hqq26 [_] [_] _ m24)).h0 rfl rfl) ?_
    rintro _ w27 uq27
    have m27 : Mem _ _ ([_] ++ (Hqq26 ++ ([_, _] ++ (Hrq5 ++ ([_, _]))))) := bM (aN Hqq26 [_] [_] _ m24) uq27
    refine rN ?_
    have hj0 := Qqi (f := f) hin
    have hj1 := Qnc (f := f) hin
    exact ⟨rq26, Hqq26, (by rw [hj0, Qre]; exact Yu.cast grq26 (by show _ = S.ks.take (Cm S ls).toNat ++ S.ks.drop ((Cm S ls).toNat + 1); rw [show (V5 S.ks (Xf ls).c (Xf ls).n + 1).toNat = (Cm S ls).toNat + 1 by show (V5 S.ks (Xf ls).c (Xf ls).n + 1).toNat = (V5 S.ks (Xf ls).c (Xf ls).n).toNat + 1; omega]; rfl)), (Qnp hok hin), rfl, rfl, rfl, rfl, rfl, rfl, rfl, (Eq.trans rfl (congrArg i64 (Yd hc8))), rfl, rfl, rfl, rfl, rfl, rfl, (by rw [hj0, hj1]; exact (by
     have hT := m27
     try simp only [aQ, aW, aX, aZ] at hT ⊢
     exact hT))⟩
   ·
    have hc22p := of_decide_eq_false hc22
    have hin : ¬ 0 ≤ Cm S ls := hc22p
    refine sR <| Qd (Ky F8 Aq rfl ((aN [_, _] Hsq17 [_] _ m21)).h0) <| Qd (Qn Xn rfl Zh rfl ((dO [_, _] Hsq17 [_] Hrq5 [_] _ m21)).h0 Ph) ?_
    have hF29 : Mem w21 (Qs w0) (([(b8, .cells (Qy (sS S rq17)) 26 (0, 0))] ++ (Hsq17 ++ ([]))) ++ ([(b14, .cells (cl u8 (aA 32 0)) 23 (0, 0)), (b11, .cells (Qy (sH ((Xf ls).c) ((Xf ls).p) ((Xf ls).n))) 53 (0, 0))] ++ (Hrq5 ++ ([(b7, .cells (cl u8 f) 23 (0, 0)), (b4, .cells (Qy (sS S vk)) 26 (0, 0))])))) := by
     have hT := (aN Hsq17 [_] [_] _ (aC [_, _] Hsq17 _ m21))
     try simp only [aQ, aW, aX, aZ] at hT ⊢
     exact hT
    refine Vr (oc53 (Dy rfl rfl rfl) (c_reach b8 S rq17 Hsq17 (Xf ls) f _ _ (dI hF29) (hT.mono fun b o e => bV hF29 e) grq17 sL sL sL sL sL)) ?_
    rintro _ w28 ⟨vqq30, Hqq30, rfl, gqq30, k_w28⟩
    have m28 : Mem w28 (Qs w0) ([(b8, .cells (Qy (sS (Qbq S (Xf ls) f) vqq30)) 26 (0, 0))] ++ (Hqq30 ++ ([(b14, .cells (cl u8 (aA 32 0)) 23 (0, 0)), (b11, .cells (Qy (sH ((Xf ls).c) ((Xf ls).p) ((Xf ls).n))) 53 (0, 0))] ++ (Hrq5 ++ ([(b7, .cells (cl u8 f) 23 (0, 0)), (b4, .cells (Qy (sS S vk)) 26 (0, 0))]))))) := ymA (dJ hF29 k_w28)
    refine Zm (ak #[(agg u8 (Qbd S (Xf ls) f)), (i64 (Nq S (Xf ls) f))]) <| Qd (v := (agg u8 (Qbd S (Xf ls) f))) (Zr rfl rfl) <| Qd (v := (i64 (Nq S (Xf ls) f))) (Zr rfl rfl) <| Vd (Qg (f := u8) (l := Qbd S (Xf ls) f) Qr Zh rfl rfl sL ((aN [_] Hqq30 [_] _ m28)).h0 Ph rfl) ?_
    rintro _ w31 uq31
    have m31 : Mem _ _ ([_, _] ++ (Hqq30 ++ ([_] ++ (Hrq5 ++ ([_, _]))))) := bM (aN [_] Hqq30 [_] _ m28) uq31
    refine Zx (i64 (Nq S (Xf ls) f)) ?_
    refine rN (sR ?_)
    refine Zm (i64 (Nq S (Xf ls) f)) <| Qd (Kz (b := 0) rfl rfl) <| rN ?_
    refine Zz rfl (fun hc32 => ?_) (fun hc32 => ?_)
    ·
     have hc32p := bne_iff_ne.1 hc32
     refine sR <| Qd (Ky Yc J5 rfl ((dn [_, _] Hqq30 [_] Hrq5 [_] [_] _ m31)).h0) <| Zm (i64 (Nq S (Xf ls) f)) <| Vs m31 (Ko J5 rfl rfl m31.h1 (Ur (eU (af hk m31)))) fun w33 m33 => Zx J3 <| Zx (i64 (Nq S (Xf ls) f)) ?_
     refine rN (Z8 (Yz ?_))
     refine Qq [(aO (Qy (sS S vk))), J3, (i64 (Nq S (Xf ls) f))] ⟨⟨_, rfl, Jq Yc J5 m33.h1⟩, rfl, rfl, trivial⟩ ?_
     have m34 := aF [_] _ m33
     have m35 := aF [_] _ m34
     have m36 := aF Hqq30 _ m35
     have m37 := aF [_] _ m36
     have m38 := aF Hrq5 _ m37
     have m39 := aF [_] _ m38
     have m40 := aF [_] _ m39
     obtain ⟨ho1, ho2, ho3, ho4⟩ := Qlq (b := lb) (Qgt hok hin) (bne_iff_ne.1 hc32)
     rw [ho1, ho2, ho3, ho4]
     exact ⟨bK none 0 0, [], bK none 0 0, [], by rw [if_neg (bne_iff_ne.1 hc32)]; rfl, Yu.none Jl 65 69, Z9.none u8 5, by simpa using m40⟩
    ·
     have hc32p := Yd hc32
     refine Qo (Qc ?_)
     have hj0 := Qiz (f := f) hin
     have hj1 := Qgc (f := f) hin
     have m41 := (dn [_, _] Hqq30 [_] Hrq5 [_] [_] _ m31)
     have m42 := (dO [_, _, _] Hqq30 [_] Hrq5 [_] _ m41)
     have m43 := (ai [_, _, _, _] Hqq30 [_] Hrq5 _ m42)
     have m44 := (ai Hrq5 [_, _, _, _] Hqq30 [_] _ m43)
     have m45 := (ai [_] Hrq5 [_, _] [_] _ m44)
     have m46 := (ai [_, _] Hrq5 [_, _, _] Hqq30 _ m45)
     have m47 := (dO Hqq30 [_, _] Hrq5 [_, _] [_] _ m46)
     exact ⟨vqq30, Hqq30, (by rw [hj0]; exact gqq30), ((Qgt hok hin).trans (Yd hc32)), rfl, rfl, rfl, rfl, rfl, rfl, rfl, (Eq.trans rfl (congrArg i64 (Yd hc32))), rfl, rfl, rfl, rfl, rfl, rfl, (by rw [hj0, hj1]; exact (by
      have hT := m47
      try simp only [aQ, aW, aX, aZ] at hT ⊢
      exact hT))⟩
  rintro fr48 w49 ⟨vj, Hj, gj, hd1, s0, s1, s2, s3, s4, s7, s8, s10, s11, s12, s13, s14, s22, s35, m49⟩
  refine Qa <| Jy Xv ?_
  have hFM50 : Mem w49 (Qs w0) ([] ++ ([(b8, .cells (Qy (sS (Qbt S ls f) vj)) 26 (0, 0))] ++ (Hj ++ ([(b14, .cells (cl u8 (Nk S ls f)) 23 (0, 0)), (b11, .cells (Qy (sH ((Xf ls).c) ((Xf ls).p) ((Xf ls).n))) 53 (0, 0))] ++ (Hrq5 ++ ([(b7, .cells (cl u8 f) 23 (0, 0)), (b4, .cells (Qy (sS S vk)) 26 (0, 0))])))))) := m49
  obtain ⟨RM50, hRM50⟩ : ∃ R2, R2 = Rest.add (Qs w0) ([(b8, .cells (Qy (sS (Qbt S ls f) vj)) 26 (0, 0))] ++ (Hj ++ ([(b14, .cells (cl u8 (Nk S ls f)) 23 (0, 0)), (b11, .cells (Qy (sH ((Xf ls).c) ((Xf ls).p) ((Xf ls).n))) 53 (0, 0))] ++ (Hrq5 ++ ([(b7, .cells (cl u8 f) 23 (0, 0)), (b4, .cells (Qy (sS S vk)) 26 (0, 0))]))))) := ⟨_, rfl⟩
  have M500 : Mem w49 RM50 [] := by rw [hRM50]; exact dI hFM50
  have hr51 : Rd RM50.blk u8 vb lb := by rw [hRM50]; exact Rd.mono hrb fun b o e => bV hFM50 e
  have hr52 : Rd RM50.blk u8 vs ls := by rw [hRM50]; exact Rd.mono hrs fun b o e => bV hFM50 e
  have hg53 : Rd RM50.blk u8 vrq5 (hdR ls) := grq5.rdIn (fun p hp => by rw [hRM50]; exact ae hFM50 (aG _ (aG _ (aG _ (aS _ hp)))))
  have ho54 : RM50.blk b8 = some (.cells (Qy (sS (Qbt S ls f) vj)) 26 (0, 0)) := by rw [hRM50]; exact ae hFM50 (aS _ (aU _))
  have hg55 : RdK RM50.blk Jl 65 vj ((Qbt S ls f).ks) := gj.rdIn (fun p hp => by rw [hRM50]; exact ae hFM50 (aG _ (aS _ hp)))
  have ho56 : RM50.blk b14 = some (.cells (cl u8 (Nk S ls f)) 23 (0, 0)) := by rw [hRM50]; exact ae hFM50 (aG _ (aG _ (aS _ (aU _))))
  have ho57 : RM50.blk b11 = some (.cells (Qy (sH ((Xf ls).c) ((Xf ls).p) ((Xf ls).n))) 53 (0, 0)) := by rw [hRM50]; exact ae hFM50 (aG _ (aG _ (aS _ (aH _ (aU _)))))
  have ho58 : RM50.blk b7 = some (.cells (cl u8 f) 23 (0, 0)) := by rw [hRM50]; exact ae hFM50 (aG _ (aG _ (aG _ (aG _ (aU _)))))
  have ho59 : RM50.blk b4 = some (.cells (Qy (sS S vk)) 26 (0, 0)) := by rw [hRM50]; exact ae hFM50 (aG _ (aG _ (aG _ (aG _ (aH _ (aU _))))))
  have hr60 : RdK RM50.blk Jl 65 vk S.ks := by rw [hRM50]; exact RdK.mono hk fun b o e => bV hFM50 e
  have hT61 : Tabs RM50.blk := by rw [hRM50]; exact Tabs.mono hT fun b o e => bV hFM50 e
  refine Dk M500 [(0, false), (1, false), (2, false), (4, false), (5, false), (7, false), (3, true), (6, true), (8, true), (9, false), (10, false), (11, false), (12, false)] 13 rfl Xv <| yqH rfl (fun w _H _hx => Qn Xn rfl Zh s14 (_hx.rest _ _ ho56) Ph) <| N8 rfl (Ve (ps := []) (c := (cl u8 (aA 12 0))) Qba Pm Yr Ya rfl) <| N8 rfl (Jb s1) <| N8 rfl (Jb s2) <| yqH rfl (fun w _H _hx => Y8 (i := 0) (j := 40) (aK hr52 _hx) Zn Yr rfl (Zd _ _) (Yb (k := .i64) (i := 40) rfl) oM sL sL) <| N8 rfl (Jb s12) ?_
  refine Qfb rfl rfl (fun w62 e62 => ?_)
  have m62 := M500.ext e62
  refine Vf.mono (oc34 (Jz rfl) (Qco vb lb _ (aK hr51 m62) sL)) ?_
  rintro rq64 w63 ⟨Hsq64, grq64, k_w63⟩
  have m63 : Mem _ _ (Hsq64 ++ ([])) := bY (H := []) (H' := Hsq64) m62 k_w63
  refine ⟨⟨_, m63⟩, ?_⟩
  refine Qfb rfl rfl (fun w65 e65 => ?_)
  have m65 := m63.ext e65
  refine Vf.mono (Xh (f := u8) (Hs := Hsq64) (H := []) m65 grq64 rfl rfl (Rd.cast (l' := (ls.drop 0).take 40) (Rd.sub (aK hr52 m65) oM sL sL) rfl) Zn Zn Yr rfl Qr sL sL) ?_
  rintro sv66 w66 ⟨Hs66, m66, g66⟩
  replace g66 : Z9 u8 5 sv66 (lb ++ ((ls.drop 0).take 40)) Hs66 := g66
  refine ⟨⟨_, m66⟩, ?_⟩
  refine Qfb rfl rfl (fun w67 e67 => ?_)
  have m67 := m66.ext e67
  refine Vf.mono (oc54 (Ry rfl rfl rfl rfl) (c_open _ _ sv66 (lb ++ ((ls.drop 0).take 40)) vrq5 (hdR ls) _ (hT61.mono fun b o e => (m67).rest b o e) sL sL (g66.rd m67) sL (aK hg53 m67) sL)) ?_
  rintro _ w68 ⟨vxq69, Hsq69, rfl, gvxq69, k_w68⟩
  have m68 : Mem _ _ (Hsq69 ++ (Hs66 ++ ([]))) := bY (H := Hs66 ++ ([])) (H' := Hsq69) m67 k_w68
  refine ⟨⟨_, m68⟩, ?_⟩
  refine N8 rfl (Jb rfl) <| N8 (v := vxq69) rfl (Zr rfl rfl) <| N8 (v := (i64 (Su (Nk S ls f) (aA 12 0) (lb ++ ((ls.drop 0).take 40)) (hdR ls)))) rfl (Zr rfl rfl) <| N8 rfl (Un (v := vxq69) rfl) <| Gf m68 fun w70 m70 => ?_
  have hX71 := m70
  rw [hRM50] at hX71
  have m72 : Mem w70 (Qs w0) (Hsq69 ++ (Hs66 ++ ([(b8, .cells (Qy (sS (Qbt S ls f) vj)) 26 (0, 0))] ++ (Hj ++ ([(b14, .cells (cl u8 (Nk S ls f)) 23 (0, 0)), (b11, .cells (Qy (sH ((Xf ls).c) ((Xf ls).p) ((Xf ls).n))) 53 (0, 0))] ++ (Hrq5 ++ ([(b7, .cells (cl u8 f) 23 (0, 0)), (b4, .cells (Qy (sS S vk)) 26 (0, 0))]))))))) := ymA (dJ hFM50 hX71)
  refine Tc rfl ?_
  refine rN (Qa (sR ?_))
  refine X9 rfl <| Qd (Kz (b := 0) rfl rfl) <| rN ?_
  refine Zz rfl (fun hc73 => ?_) (fun hc73 => ?_)
  ·
   have hc73p := bne_iff_ne.1 hc73
   refine sR <| Qd (Ky Yc J5 s4 ((Mem.pick7 Hsq69 Hs66 [_] Hj [_, _] Hrq5 [_] [_] _ m72)).h0) <| X9 rfl <| Vd (Ko J5 s8 rfl ((aN Hsq69 Hs66 [_] _ m72)).h0 (Ur (eU (af hk m72)))) ?_
   rintro _ w74 uq74
   have m74 : Mem _ _ ([_] ++ (Hsq69 ++ (Hs66 ++ (Hj ++ ([_, _] ++ (Hrq5 ++ ([_, _]))))))) := bM (aN Hsq69 Hs66 [_] _ m72) uq74
   refine Zx J3 <| Tc rfl ?_
   refine rN (Z8 (Yz ?_))
   refine Qq [(aO (Qy (sS S vk))), J3, (i64 (Su (Nk S ls f) (aA 12 0) (lb ++ ((ls.drop 0).take 40)) (hdR ls)))] ⟨⟨_, s8, Jq Yc J5 m74.h0⟩, rfl, rfl, trivial⟩ ?_
   have hon : Qcy (Nk S ls f) lb ls = (Su (Nk S ls f) (aA 12 0) (lb ++ ((ls.drop 0).take 40)) (hdR ls)) := by unfold Qcy; rw [← hrr]; rfl
   have m75 := aF [_] _ m74
   have m76 := aF Hsq69 _ m75
   have m77 := aF Hs66 _ m76
   have m78 := aF Hj _ m77
   have m79 := aF [_] _ m78
   have m80 := aF [_] _ m79
   have m81 := aF Hrq5 _ m80
   have m82 := aF [_] _ m81
   have m83 := aF [_] _ m82
   obtain ⟨ho1, ho2, ho3, ho4⟩ := out_2 hd1 (by rw [hon]; exact bne_iff_ne.1 hc73)
   rw [ho1, ho2, ho3, ho4]
   exact ⟨bK none 0 0, [], bK none 0 0, [], by rw [if_neg (by rw [hon]; exact bne_iff_ne.1 hc73)]; rw [hon]; rfl, Yu.none Jl 65 69, Z9.none u8 5, by simpa using m83⟩
  ·
   have hc73p := Yd hc73
   refine Qo (Qc (sR ?_))
   refine Qd (Ky Yc J5 s8 ((aN Hsq69 Hs66 [_] _ m72)).h0) <| Zm vxq69 <| Vd (Ko J5 s8 rfl ((aN Hsq69 Hs66 [_] _ m72)).h0 (Ur gj.one)) ?_
   rintro _ w84 uq84
   have m84 : Mem _ _ ([_] ++ (Hsq69 ++ (Hs66 ++ (Hj ++ ([_, _] ++ (Hrq5 ++ ([_, _]))))))) := bM (aN Hsq69 Hs66 [_] _ m72) uq84
   refine Zx vxq69 <| Zx (i64 0) ?_
   refine rN (Z8 ?_)
   refine Qq [(aO (Qy (sS (Qbt S ls f) vj))), vxq69, (i64 0)] ⟨⟨_, s8, Jq Yc J5 m84.h0⟩, rfl, rfl, trivial⟩ ?_
   have hon : Qcy (Nk S ls f) lb ls = (Su (Nk S ls f) (aA 12 0) (lb ++ ((ls.drop 0).take 40)) (hdR ls)) := by unfold Qcy; rw [← hrr]; rfl
   have m85 := aF [_] _ m84
   have m86 := aF Hs66 _ (aC Hsq69 Hs66 _ m85)
   have m87 := aF [_] _ (aN Hsq69 Hj [_] _ m86)
   have m88 := aF [_] _ (aN Hsq69 Hj [_] _ m87)
   have m89 := aF Hrq5 _ (aN Hsq69 Hj Hrq5 _ m88)
   have m90 := aF [_] _ (aN Hsq69 Hj [_] _ m89)
   have m91 := aF [_] _ (aN Hsq69 Hj [_] _ m90)
   have m92 := (aC Hsq69 Hj _ m91)
   obtain ⟨ho1, ho2, ho3, ho4⟩ := out_3 hd1 (by rw [hon]; exact Yd hc73)
   rw [ho1, ho2, ho3, ho4]
   exact ⟨vj, Hj, vxq69, Hsq69, by rw [if_pos rfl]; rfl, gj, Z9.cast gvxq69 (by unfold opnP; rw [← hrr]; rfl), (by
    have hT := m92
    try simp only [aQ, aW, aX, aZ] at hT ⊢
    exact hT)⟩
end Go.Proofs.YtkmiemlpfkfiiaaDoor
