/- The ratchet: what is deciphered (the code). Conditions: none beyond those that each theorem states. -/
import Derived.Test.YtkmiemlpfkfiiaaDoorRb5
import Derived.Test.YtkmiemlpfkfiiaaDoorRb6
namespace Go.Proofs.YtkmiemlpfkfiiaaDoor
open Tryd
set_option linter.unusedVariables false
set_option linter.unusedSimpArgs false
def Bo (S : Sn) (s : Xg) : Int := Gh S.ks (Xn s).c (Xn s).n
def Qd4 (S : Sn) (s f : Xg) : Int := if Px s then (if 0 ≤ Bo S s then 0 else Nr S (Xn s) f) else 3
def Nu (S : Sn) (s f : Xg) : Xg := if 0 ≤ Bo S s then (S.ks.getD (Bo S s).toNat D7).k else Qbc S (Xn s) f
def Sn.cutK (S : Sn) (i : Nat) : Sn := ⟨S.r, S.w, S.o, S.sb, S.tb, S.s, S.t, S.n1, S.n2, S.n3, S.ks.take i ++ S.ks.drop (i + 1), S.hr, S.hw, S.ho, S.hs, S.ht⟩
def Qbq (S : Sn) (s f : Xg) : Sn := if 0 ≤ Bo S s then S.cutK (Bo S s).toNat else Qbp S (Xn s) f
def Qc3 (k b s : Xg) : Int := Tn k (List.replicate 12 0) (b ++ s.take 40) (s.drop 40)
def opnP (k b s : Xg) : Xg := Qam k (List.replicate 12 0) (b ++ s.take 40) (s.drop 40)
def J9 (S : Sn) (b s f : Xg) : Int := if Qd4 S s f = 0 then Qc3 (Nu S s f) b s else Qd4 S s f
def Cm (S : Sn) (b s f : Xg) : Xg := if J9 S b s f = 0 then opnP (Nu S s f) b s else []
def V6 (S : Sn) (b s f : Xg) : Sn := if J9 S b s f = 0 then Qbq S s f else S
def Qgv (S : Sn) (b s f : Xg) : List Kp := if J9 S b s f = 0 then (Qbq S s f).ks else []
section
variable {S : Sn} {b s f : Xg}
theorem Qev (h : J9 S b s f ≠ 0) : V6 S b s f = S ∧ Cm S b s f = [] ∧ Qgv S b s f = [] := by
 refine ⟨?_, ?_, ?_⟩
 ·unfold V6; rw [if_neg h]
 ·unfold Cm; rw [if_neg h]
 unfold Qgv; rw [if_neg h]
theorem dec_z (h : J9 S b s f = 0) : V6 S b s f = Qbq S s f ∧ Cm S b s f = opnP (Nu S s f) b s ∧ Qgv S b s f = (Qbq S s f).ks := by
 refine ⟨?_, ?_, ?_⟩
 ·unfold V6; rw [if_pos h]
 ·unfold Cm; rw [if_pos h]
 unfold Qgv; rw [if_pos h]
theorem Qqp (h : Px s = false) : Qd4 S s f = 3 := by unfold Qd4; rw [h]; rfl
theorem Qmh (h : Px s = true) (h1 : 0 ≤ Bo S s) : Qd4 S s f = 0 := by unfold Qd4; rw [h, if_pos h1]; rfl
theorem Qjm (h : Px s = true) (h1 : ¬ 0 ≤ Bo S s) : Qd4 S s f = Nr S (Xn s) f := by unfold Qd4; rw [h, if_neg h1]; rfl
theorem decE_1 (h : Qd4 S s f ≠ 0) : J9 S b s f = Qd4 S s f := by unfold J9; rw [if_neg h]
theorem decE_0 (h : Qd4 S s f = 0) : J9 S b s f = Qc3 (Nu S s f) b s := by unfold J9; rw [if_pos h]
theorem Ql5 (h1 : 0 ≤ Bo S s) : Nu S s f = (S.ks.getD (Bo S s).toNat D7).k := by unfold Nu; rw [if_pos h1]
theorem Qi8 (h1 : ¬ 0 ≤ Bo S s) : Nu S s f = Qbc S (Xn s) f := by unfold Nu; rw [if_neg h1]
theorem Qnn : (Nu S s f).length = 32 := by unfold Nu; split; exact Kp.hk _; exact Qi1 _ _ _
theorem Qos (h1 : 0 ≤ Bo S s) : Qbq S s f = S.cutK (Bo S s).toNat := by unfold Qbq; rw [if_pos h1]
theorem Ql2 (h1 : ¬ 0 ≤ Bo S s) : Qbq S s f = Qbp S (Xn s) f := by unfold Qbq; rw [if_neg h1]
theorem Ql3 : (Qbq S s f).ks.length ≤ S.ks.length + 4000 := by
 unfold Qbq; split
 ·show (S.ks.take _ ++ S.ks.drop _).length ≤ _
  rw [List.length_append, List.length_take, List.length_drop]; omega
 exact rchS_len _ _ _
theorem Qks {e : Int} (h : Qd4 S s f = e) (hz : e ≠ 0) : J9 S b s f = e ∧ V6 S b s f = S ∧ Cm S b s f = [] ∧ Qgv S b s f = [] := by
 have h1 : J9 S b s f = e := by rw [decE_1 (by rw [h]; exact hz), h]
 exact ⟨h1, Qev (by rw [h1]; exact hz)⟩
theorem out_2 (h : Qd4 S s f = 0) (hz : Qc3 (Nu S s f) b s ≠ 0) : J9 S b s f = Qc3 (Nu S s f) b s ∧ V6 S b s f = S ∧ Cm S b s f = [] ∧ Qgv S b s f = [] := by
 have h1 := decE_0 (b := b) h
 exact ⟨h1, Qev (by rw [h1]; exact hz)⟩
theorem out_3 (h : Qd4 S s f = 0) (hz : Qc3 (Nu S s f) b s = 0) : J9 S b s f = 0 ∧ V6 S b s f = Qbq S s f ∧ Cm S b s f = opnP (Nu S s f) b s ∧ Qgv S b s f = (Qbq S s f).ks := by
 have h1 := (decE_0 (b := b) h).trans hz
 exact ⟨h1, dec_z h1⟩
end
theorem RdK.ite {α : Type} {enc : α → List Value} {k : Nat} {m : Nat → Option Obj} {p : Prop} [Decidable p] {u v : Value} {l : List α} (h1 : p → RdK m enc k u l) (h2 : ¬ p → RdK m enc k v l) : RdK m enc k (if p then u else v) l := by
 split
 ·exact h1 ‹_›
 exact h2 ‹_›
theorem hdE_0 {b : Xg} (h : hdE b = 0) : Px b = true := by
 cases e : Px b with
 | true => rfl
 | false => rw [(Qjb e).2.1] at h; exact absurd h Jg
theorem hdE_3 {b : Xg} (h : hdE b ≠ 0) : Px b = false ∧ hdE b = 3 := by
 cases e : Px b with
 | false => exact ⟨rfl, (Qjb e).2.1⟩
 | true => exact absurd (Qgm e).2.1 h
theorem Dy {S : Sn} {b s f : Xg} (h : J9 S b s f = 0) : Qgv S b s f = (V6 S b s f).ks := by rw [(dec_z h).1, (dec_z h).2.2]
theorem Dz {S : Sn} {b s f : Xg} (h : J9 S b s f ≠ 0) : S.ks = (V6 S b s f).ks := by rw [(Qev h).1]
theorem Qh7 {S : Sn} {b s f : Xg} : (Cm S b s f).length ≤ s.length := by
 unfold Cm; split
 ·unfold opnP; refine Nat.le_trans (openQ_le _ _ _ _) ?_; rw [List.length_drop]; omega
 exact Nat.zero_le _
theorem Qfv {S : Sn} {b s f : Xg} : (V6 S b s f).ks.length ≤ S.ks.length + 4000 := by
 unfold V6; split
 ·exact Ql3
 omega
theorem Qpk (S : Sn) (i : Nat) : (S.cutK i).ks = S.ks.take i ++ S.ks.drop (i + 1) := rfl
attribute [local irreducible] Qc5 Wu Eh Yg Jj Tc Wp Vd Wn Xk Ae F6 Qe Yt Qi Bl Px Xn hdR hdE Gh Tn Qam Nr Qbp Qbc Jz
set_option maxHeartbeats 2000000 in
theorem Qid (S : Sn) (vk : Value) (vb : Value) (lb : Xg) (vs : Value) (ls : Xg) (f : Xg) (w0 : World)  (hT : Tabs (Jl w0)) (hk : RdK (Jl w0) Jt 65 vk S.ks) (hrb : Rd (Jl w0) u8 vb lb) (hlb : lb.length ≤ 90000) (hrs : Rd (Jl w0) u8 vs ls) (hls : ls.length ≤ 90000) (hfl : f.length = 32) (hn2 : 0 ≤ S.n2 ∧ S.n2 ≤ 2147483647) (hkl : S.ks.length ≤ 5000) : X9 prog 25 #[(Value.agg (Qo (sS S vk))), vb, vs, (agg u8 f)] w0 (fun r w1 => ∃ vq Hq vp Hp, r = Value.tuple #[(Value.agg (Qo (sS (V6 S lb ls f) (if J9 S lb ls f = 0 then vq else vk)))), vp, i64 (J9 S lb ls f)] ∧ Yz Jt 65 69 vq (Qgv S lb ls f) Hq ∧ Xe u8 5 vp (Cm S lb ls f) Hp ∧ Mem w1 (Qu w0) (Hq ++ Hp)) := by
 refine Zb (args := [(Value.agg (Qo (sS S vk))), vb, vs, (agg u8 f)]) func25 rfl ntmps25 results25 rfl ?_
 have m0 : Mem w0 (Qu w0) [] := Mem.of_world w0
 have hhc := (Xn ls).hc
 have hkal := Qnn (S := S) (s := ls) (f := f)
 have hmll := Ql3 (S := S) (s := ls) (f := f)
 have hrkl := Qi1 S (Xn ls) f
 refine sR <| Y9 (F8 (cs := (Qo (sS S vk))) m0 rfl) fun w1 b4 m1 => Y9 (Xa (f := u8) (l := f) m1 rfl) fun w2 b7 m2 => Y9 (Ji m2 Ja) fun w3 b8 m3 => Zz Yj <| Zz (i64 0) ?_
 refine rN (sR ?_)
 refine Zp vs <| Vy (oc23 (Kt rfl) (c_head19 vs ls _ (Rd.ofRest hrs m3) sL)) ?_
 rintro _ w4 ⟨vrq5, Hrq5, rfl, grq5, k_w4⟩
 have m4 : Mem _ _ (Hrq5 ++ ([_, _, _])) := Mem.new (H := [_, _, _]) (H' := Hrq5) m3 k_w4
 refine Ya rfl <| Qd (v := (Value.agg (Qo (sH ((Xn ls).c) ((Xn ls).p) ((Xn ls).n))))) (Zm rfl rfl) <| Qd (v := vrq5) (Zm rfl rfl) <| Qd (v := (i64 (hdE ls))) (Zm rfl rfl) <| Y9 (Ji m4 Ap) fun w6 b11 m6 => Ye m6 (J8 Ap rfl rfl m6.h0 (Yr (Jo Qy _) (Yr (X4 (Z4 _) Kw) (Yr (X4 (Z4 _) Kw) Fa)))) fun w7 m7 => Zz vrq5 <| Zz (i64 (hdE ls)) ?_
 refine rN (Qa (sR ?_))
 refine Zp (i64 (hdE ls)) <| Qd (Jw (b := 0) rfl rfl) <| rN ?_
 refine Z8 rfl (fun hc8 => ?_) (fun hc8 => ?_)
 ·
  have hc8p := bne_iff_ne.1 hc8
  refine sR <| Qd (Jk X3 Ja rfl ((Mem.pick3 [_] Hrq5 [_, _] [_] _ m7)).h0) <| Zp (i64 (hdE ls)) <| Vk (J8 Ja rfl rfl ((Mem.pick2 [_] Hrq5 [_] _ m7)).h0 (Gx (RdK.one (RdK.ofRest hk m7)))) ?_
  rintro _ w9 uq9
  have m9 : Mem _ _ ([_, _] ++ (Hrq5 ++ ([_, _]))) := Mem.upd0 (Mem.pick2 [_] Hrq5 [_] _ m7) uq9
  refine Zz Yj <| Zz (i64 (hdE ls)) ?_
  refine rN (Xb (Y3 ?_))
  refine Qv [(Value.agg (Qo (sS S vk))), Yj, (i64 (hdE ls))] ⟨⟨_, rfl, J4 X3 Ja m9.h0⟩, rfl, rfl, trivial⟩ ?_
  have m10 := Mem.drop [_] _ m9
  have m11 := Mem.drop [_] _ m10
  have m12 := Mem.drop Hrq5 _ m11
  have m13 := Mem.drop [_] _ m12
  have m14 := Mem.drop [_] _ m13
  obtain ⟨ho1, ho2, ho3, ho4⟩ := Qks (b := lb) (Qqp (f := f) (S := S) (hdE_3 (bne_iff_ne.1 hc8)).1) Jg
  rw [ho1, ho2, ho3, ho4]
  exact ⟨Value.slice none 0 0, [], Value.slice none 0 0, [], by rw [if_neg Jg]; rw [(hdE_3 (bne_iff_ne.1 hc8)).2]; rfl, Yz.none Jt 65 69, Xe.none u8 5, by simpa using m14⟩
 ·
  have hc8p := X0 hc8
  have hok := hdE_0 (X0 hc8)
  obtain ⟨hl40, hhp, hhn⟩ := hd_of hok
  have hrr := (Qgm hok).2.2
  have hrl : (hdR ls).length = ls.length - 40 := by rw [hrr, List.length_drop]
  refine Qs (Qc (sR ?_))
  refine Qd (Jk X3 Ja rfl ((Mem.pick3 [_] Hrq5 [_, _] [_] _ m7)).h0) <| Vk (J8 Ja rfl rfl ((Mem.pick2 [_] Hrq5 [_] _ m7)).h0 (Gx (RdK.one (RdK.ofRest hk m7)))) ?_
  rintro _ w15 uq15
  have m15 : Mem _ _ ([_, _] ++ (Hrq5 ++ ([_, _]))) := Mem.upd0 (Mem.pick2 [_] Hrq5 [_] _ m7) uq15
  refine rN (sR ?_)
  refine Qd (Zr (r := 165) X3 rfl Jr Aq rfl rfl) <| Qd (Y8 10 Gu rfl ((Mem.pick3 [_, _] Hrq5 [_] [_] _ m15)).h0 rfl) <| Vy (oc29 (Kt rfl) (Qn5 vk S.ks _ (RdK.ofRest hk m15) sL)) ?_
  rintro rq17 w16 ⟨Hsq17, grq17, k_w16⟩
  have m16 : Mem _ _ (Hsq17 ++ ([_, _] ++ (Hrq5 ++ ([_, _])))) := Mem.new (H := [_, _] ++ (Hrq5 ++ ([_, _]))) (H' := Hsq17) m15 k_w16
  refine Qd (Zr (r := 165) X3 rfl Jr Aq rfl rfl) <| Vk (Ui 10 (sS S rq17) Aq rfl rfl grq17.one ((Mem.pick Hsq17 [_] _ m16)).h0 rfl rfl) ?_
  rintro _ w18 uq18
  have m18 : Mem _ _ ([_] ++ (Hsq17 ++ ([_] ++ (Hrq5 ++ ([_, _]))))) := Mem.upd0 (Mem.pick Hsq17 [_] _ m16) uq18
  refine rN (sR ?_)
  refine Qd (Zr (r := 165) X3 rfl Jr Aq rfl rfl) <| Qd (Y8 10 Gu rfl m18.h0 rfl) <| Qd (Qhj (Kt rfl)) <| U9 m18 (oc50 (Xm rfl rfl) (c_findK rq17 S.ks b11 ((Xn ls).c) ((Xn ls).p) ((Xn ls).n) _ (grq17.rd (Mem.pick [_] Hsq17 _ m18)) sL ((Mem.pick2 [_] Hsq17 [_] _ m18)).h0 sL)) fun w19 m19 => Zz (i64 (Gh S.ks ((Xn ls).c) ((Xn ls).n))) ?_
  refine rN (sR ?_)
  refine Y9 (Zc m19 Zl) fun w21 b14 m21 => ?_
  refine rN (Qa (sR ?_))
  refine Zp (i64 (Gh S.ks ((Xn ls).c) ((Xn ls).n))) <| Qd (E8 (b := 0) rfl rfl) <| rN ?_
  refine Bq (J := fun g wv => ∃ (vj : Value) (Hj : List (Nat × Obj)), (Yz Jt 65 69 vj (Qbq S ls f).ks Hj) ∧ (Qd4 S ls f = 0) ∧ g 0 = (Value.agg (Qo (sS S vk))) ∧ g 1 = vb ∧ g 2 = vs ∧ g 3 = (agg u8 f) ∧ g 4 = (ptr b4 0) ∧ g 7 = (ptr b7 0) ∧ g 8 = (ptr b8 0) ∧ g 10 = (i64 0) ∧ g 11 = (ptr b11 0) ∧ g 12 = vrq5 ∧ g 13 = (i64 (Gh S.ks ((Xn ls).c) ((Xn ls).n))) ∧ g 14 = (ptr b14 0) ∧ g 22 = (bl ((hdE ls) != 0)) ∧ g 35 = (bl (decide (0 ≤ (Gh S.ks ((Xn ls).c) ((Xn ls).n))))) ∧ Mem wv (Qu w0) ([(b8, .cells (Qo (sS (Qbq S ls f) vj)) 26 (0, 0))] ++ (Hj ++ ([(b14, .cells (cl u8 (Nu S ls f)) 23 (0, 0)), (b11, .cells (Qo (sH ((Xn ls).c) ((Xn ls).p) ((Xn ls).n))) 53 (0, 0))] ++ (Hrq5 ++ ([(b7, .cells (cl u8 f) 23 (0, 0)), (b4, .cells (Qo (sS S vk)) 26 (0, 0))])))))) ?_ ?_
  ·skip
   refine Z8 rfl (fun hc22 => ?_) (fun hc22 => ?_)
   ·
    have hc22p := of_decide_eq_true hc22
    have hin : 0 ≤ Bo S ls := hc22p
    obtain ⟨i, hi1, hi2⟩ : ∃ i : Nat, Gh S.ks (Xn ls).c (Xn ls).n = i ∧ i < S.ks.length := (find_ge).resolve_left oM
    have hkk := (S.ks.getD (Gh S.ks (Xn ls).c (Xn ls).n).toNat D7).hk
    refine sR <| Qd (Zr (r := 165) X3 rfl Jr Aq rfl rfl) <| Qd (Y8 10 Gu rfl m21.h1 rfl) <| Zp (i64 (Gh S.ks ((Xn ls).c) ((Xn ls).n))) <| Qd (Jb (i := Gh S.ks ((Xn ls).c) ((Xn ls).n)) (grq17.rd (Mem.pick [_, _] Hsq17 _ m21)) Gu Bz rfl rfl oM sL) <| Qd (Qfr (i := Gh S.ks ((Xn ls).c) ((Xn ls).n)) (grq17.rd (Mem.pick [_, _] Hsq17 _ m21)) sL Qei rfl Jr Zl rfl rfl) <| Qd (v := (agg u8 ((S.ks.getD ((Gh S.ks ((Xn ls).c) ((Xn ls).n) : Int).toNat) D7).k))) (Ah (i := Gh S.ks ((Xn ls).c) ((Xn ls).n)) (dflt := D7) (cs := (cl u8 ((S.ks.getD ((Gh S.ks ((Xn ls).c) ((Xn ls).n) : Int).toNat) D7).k))) (grq17.rd (Mem.pick [_, _] Hsq17 _ m21)) sL Xq rfl Zl rfl rfl Jg (kp_k (S.ks.getD ((Gh S.ks ((Xn ls).c) ((Xn ls).n) : Int).toNat) D7))) <| Ye m21 (Qj (f := u8) (l := (S.ks.getD ((Gh S.ks ((Xn ls).c) ((Xn ls).n) : Int).toNat) D7).k) Qy Zl rfl rfl sL m21.h0 Nj rfl) fun w23 m23 => ?_
    refine rN (Qb ?_)
    refine Qd (Zr (r := 165) X3 rfl Jr Aq rfl rfl) <| Qd (Y8 10 Gu rfl m23.h1 rfl) <| Zp (i64 (Gh S.ks ((Xn ls).c) ((Xn ls).n))) <| Zp (i64 (Gh S.ks ((Xn ls).c) ((Xn ls).n))) <| Qd (Zg (b := 1) rfl rfl oM oM) ?_
    have hF25 : Mem w23 (Qu w0) ((Hsq17 ++ ([])) ++ ([(b14, .cells (cl u8 ((S.ks.getD ((Gh S.ks ((Xn ls).c) ((Xn ls).n) : Int).toNat) D7).k)) 23 (0, 0)), (b8, .cells (Qo (sS S rq17)) 26 (0, 0)), (b11, .cells (Qo (sH ((Xn ls).c) ((Xn ls).p) ((Xn ls).n))) 53 (0, 0))] ++ (Hrq5 ++ ([(b7, .cells (cl u8 f) 23 (0, 0)), (b4, .cells (Qo (sS S vk)) 26 (0, 0))])))) := by
     have hT := (Mem.pick [_, _] Hsq17 _ m23)
     try simp only [List.append_assoc, List.cons_append, List.nil_append, List.append_nil] at hT ⊢
     exact hT
    refine Vy (oc52 (D6 rfl rfl rfl) (c_delK rq17 S.ks Hsq17 (Gh S.ks ((Xn ls).c) ((Xn ls).n)) ((Gh S.ks ((Xn ls).c) ((Xn ls).n)) + 1) _ _ (Mem.give hF25) grq17 (by refine ⟨?_, ?_, ?_⟩ <;> first | omega | (simp; omega)) sL)) ?_
    rintro rq26 w24 ⟨Hqq26, grq26, k_w24⟩
    have m24 : Mem w24 (Qu w0) (Hqq26 ++ ([(b14, .cells (cl u8 ((S.ks.getD ((Gh S.ks ((Xn ls).c) ((Xn ls).n) : Int).toNat) D7).k)) 23 (0, 0)), (b8, .cells (Qo (sS S rq17)) 26 (0, 0)), (b11, .cells (Qo (sH ((Xn ls).c) ((Xn ls).p) ((Xn ls).n))) 53 (0, 0))] ++ (Hrq5 ++ ([(b7, .cells (cl u8 f) 23 (0, 0)), (b4, .cells (Qo (sS S vk)) 26 (0, 0))])))) := ymA (Mem.back hF25 k_w24)
    refine Qd (Zr (r := 165) X3 rfl Jr Aq rfl rfl) <| Vk (Ui 10 (sS S rq26) Aq rfl rfl grq26.one ((Mem.pick2 Hqq26 [_] [_] _ m24)).h0 rfl rfl) ?_
    rintro _ w27 uq27
    have m27 : Mem _ _ ([_] ++ (Hqq26 ++ ([_, _] ++ (Hrq5 ++ ([_, _]))))) := Mem.upd0 (Mem.pick2 Hqq26 [_] [_] _ m24) uq27
    refine rN ?_
    have hj0 := Qos (f := f) hin
    have hj1 := Ql5 (f := f) hin
    exact ⟨rq26, Hqq26, (by rw [hj0, Qpk]; exact Yz.cast grq26 (by show _ = S.ks.take (Bo S ls).toNat ++ S.ks.drop ((Bo S ls).toNat + 1); rw [show (Gh S.ks (Xn ls).c (Xn ls).n + 1).toNat = (Bo S ls).toNat + 1 by show (Gh S.ks (Xn ls).c (Xn ls).n + 1).toNat = (Gh S.ks (Xn ls).c (Xn ls).n).toNat + 1; omega]; rfl)), (Qmh hok hin), rfl, rfl, rfl, rfl, rfl, rfl, rfl, (Eq.trans rfl (congrArg i64 (X0 hc8))), rfl, rfl, rfl, rfl, rfl, rfl, (by rw [hj0, hj1]; exact (by
     have hT := m27
     try simp only [List.append_assoc, List.cons_append, List.nil_append, List.append_nil] at hT ⊢
     exact hT))⟩
   ·
    have hc22p := of_decide_eq_false hc22
    have hin : ¬ 0 ≤ Bo S ls := hc22p
    refine sR <| Qd (Jk Ea Ap rfl ((Mem.pick2 [_, _] Hsq17 [_] _ m21)).h0) <| Qd (Qp Xq rfl Zl rfl ((Mem.pick4 [_, _] Hsq17 [_] Hrq5 [_] _ m21)).h0 Nj) ?_
    have hF29 : Mem w21 (Qu w0) (([(b8, .cells (Qo (sS S rq17)) 26 (0, 0))] ++ (Hsq17 ++ ([]))) ++ ([(b14, .cells (cl u8 (List.replicate 32 0)) 23 (0, 0)), (b11, .cells (Qo (sH ((Xn ls).c) ((Xn ls).p) ((Xn ls).n))) 53 (0, 0))] ++ (Hrq5 ++ ([(b7, .cells (cl u8 f) 23 (0, 0)), (b4, .cells (Qo (sS S vk)) 26 (0, 0))])))) := by
     have hT := (Mem.pick2 Hsq17 [_] [_] _ (Mem.pick [_, _] Hsq17 _ m21))
     try simp only [List.append_assoc, List.cons_append, List.nil_append, List.append_nil] at hT ⊢
     exact hT
    refine Vy (oc53 (D6 rfl rfl rfl) (c_reach b8 S rq17 Hsq17 (Xn ls) f _ _ (Mem.give hF29) (hT.mono fun b o e => Mem.addRest hF29 e) grq17 sL sL sL sL sL)) ?_
    rintro _ w28 ⟨vqq30, Hqq30, rfl, gqq30, k_w28⟩
    have m28 : Mem w28 (Qu w0) ([(b8, .cells (Qo (sS (Qbp S (Xn ls) f) vqq30)) 26 (0, 0))] ++ (Hqq30 ++ ([(b14, .cells (cl u8 (List.replicate 32 0)) 23 (0, 0)), (b11, .cells (Qo (sH ((Xn ls).c) ((Xn ls).p) ((Xn ls).n))) 53 (0, 0))] ++ (Hrq5 ++ ([(b7, .cells (cl u8 f) 23 (0, 0)), (b4, .cells (Qo (sS S vk)) 26 (0, 0))]))))) := ymA (Mem.back hF29 k_w28)
    refine Zp (Value.tuple #[(agg u8 (Qbc S (Xn ls) f)), (i64 (Nr S (Xn ls) f))]) <| Qd (v := (agg u8 (Qbc S (Xn ls) f))) (Zm rfl rfl) <| Qd (v := (i64 (Nr S (Xn ls) f))) (Zm rfl rfl) <| Vk (Qj (f := u8) (l := Qbc S (Xn ls) f) Qy Zl rfl rfl sL ((Mem.pick2 [_] Hqq30 [_] _ m28)).h0 Nj rfl) ?_
    rintro _ w31 uq31
    have m31 : Mem _ _ ([_, _] ++ (Hqq30 ++ ([_] ++ (Hrq5 ++ ([_, _]))))) := Mem.upd0 (Mem.pick2 [_] Hqq30 [_] _ m28) uq31
    refine Zz (i64 (Nr S (Xn ls) f)) ?_
    refine rN (sR ?_)
    refine Zp (i64 (Nr S (Xn ls) f)) <| Qd (Jw (b := 0) rfl rfl) <| rN ?_
    refine Z8 rfl (fun hc32 => ?_) (fun hc32 => ?_)
    ·
     have hc32p := bne_iff_ne.1 hc32
     refine sR <| Qd (Jk X3 Ja rfl ((Mem.pick5 [_, _] Hqq30 [_] Hrq5 [_] [_] _ m31)).h0) <| Zp (i64 (Nr S (Xn ls) f)) <| Vz m31 (J8 Ja rfl rfl m31.h1 (Gx (RdK.one (RdK.ofRest hk m31)))) fun w33 m33 => Zz Yj <| Zz (i64 (Nr S (Xn ls) f)) ?_
     refine rN (Xb (Y3 ?_))
     refine Qv [(Value.agg (Qo (sS S vk))), Yj, (i64 (Nr S (Xn ls) f))] ⟨⟨_, rfl, J4 X3 Ja m33.h1⟩, rfl, rfl, trivial⟩ ?_
     have m34 := Mem.drop [_] _ m33
     have m35 := Mem.drop [_] _ m34
     have m36 := Mem.drop Hqq30 _ m35
     have m37 := Mem.drop [_] _ m36
     have m38 := Mem.drop Hrq5 _ m37
     have m39 := Mem.drop [_] _ m38
     have m40 := Mem.drop [_] _ m39
     obtain ⟨ho1, ho2, ho3, ho4⟩ := Qks (b := lb) (Qjm hok hin) (bne_iff_ne.1 hc32)
     rw [ho1, ho2, ho3, ho4]
     exact ⟨Value.slice none 0 0, [], Value.slice none 0 0, [], by rw [if_neg (bne_iff_ne.1 hc32)]; rfl, Yz.none Jt 65 69, Xe.none u8 5, by simpa using m40⟩
    ·
     have hc32p := X0 hc32
     refine Qs (Qc ?_)
     have hj0 := Ql2 (f := f) hin
     have hj1 := Qi8 (f := f) hin
     have m41 := (Mem.pick5 [_, _] Hqq30 [_] Hrq5 [_] [_] _ m31)
     have m42 := (Mem.pick4 [_, _, _] Hqq30 [_] Hrq5 [_] _ m41)
     have m43 := (Mem.pick3 [_, _, _, _] Hqq30 [_] Hrq5 _ m42)
     have m44 := (Mem.pick3 Hrq5 [_, _, _, _] Hqq30 [_] _ m43)
     have m45 := (Mem.pick3 [_] Hrq5 [_, _] [_] _ m44)
     have m46 := (Mem.pick3 [_, _] Hrq5 [_, _, _] Hqq30 _ m45)
     have m47 := (Mem.pick4 Hqq30 [_, _] Hrq5 [_, _] [_] _ m46)
     exact ⟨vqq30, Hqq30, (by rw [hj0]; exact gqq30), ((Qjm hok hin).trans (X0 hc32)), rfl, rfl, rfl, rfl, rfl, rfl, rfl, (Eq.trans rfl (congrArg i64 (X0 hc32))), rfl, rfl, rfl, rfl, rfl, rfl, (by rw [hj0, hj1]; exact (by
      have hT := m47
      try simp only [List.append_assoc, List.cons_append, List.nil_append, List.append_nil] at hT ⊢
      exact hT))⟩
  rintro fr48 w49 ⟨vj, Hj, gj, hd1, s0, s1, s2, s3, s4, s7, s8, s10, s11, s12, s13, s14, s22, s35, m49⟩
  refine Qa <| Kr Xw ?_
  have hFM50 : Mem w49 (Qu w0) ([] ++ ([(b8, .cells (Qo (sS (Qbq S ls f) vj)) 26 (0, 0))] ++ (Hj ++ ([(b14, .cells (cl u8 (Nu S ls f)) 23 (0, 0)), (b11, .cells (Qo (sH ((Xn ls).c) ((Xn ls).p) ((Xn ls).n))) 53 (0, 0))] ++ (Hrq5 ++ ([(b7, .cells (cl u8 f) 23 (0, 0)), (b4, .cells (Qo (sS S vk)) 26 (0, 0))])))))) := m49
  obtain ⟨RM50, hRM50⟩ : ∃ R2, R2 = Rest.add (Qu w0) ([(b8, .cells (Qo (sS (Qbq S ls f) vj)) 26 (0, 0))] ++ (Hj ++ ([(b14, .cells (cl u8 (Nu S ls f)) 23 (0, 0)), (b11, .cells (Qo (sH ((Xn ls).c) ((Xn ls).p) ((Xn ls).n))) 53 (0, 0))] ++ (Hrq5 ++ ([(b7, .cells (cl u8 f) 23 (0, 0)), (b4, .cells (Qo (sS S vk)) 26 (0, 0))]))))) := ⟨_, rfl⟩
  have M500 : Mem w49 RM50 [] := by rw [hRM50]; exact Mem.give hFM50
  have hr51 : Rd RM50.blk u8 vb lb := by rw [hRM50]; exact Rd.mono hrb fun b o e => Mem.addRest hFM50 e
  have hr52 : Rd RM50.blk u8 vs ls := by rw [hRM50]; exact Rd.mono hrs fun b o e => Mem.addRest hFM50 e
  have hg53 : Rd RM50.blk u8 vrq5 (hdR ls) := grq5.rdIn (fun p hp => by rw [hRM50]; exact Mem.addOwn hFM50 (List.mem_append_right _ (List.mem_append_right _ (List.mem_append_right _ (List.mem_append_left _ hp)))))
  have ho54 : RM50.blk b8 = some (.cells (Qo (sS (Qbq S ls f) vj)) 26 (0, 0)) := by rw [hRM50]; exact Mem.addOwn hFM50 (List.mem_append_left _ (List.Mem.head _))
  have hg55 : RdK RM50.blk Jt 65 vj ((Qbq S ls f).ks) := gj.rdIn (fun p hp => by rw [hRM50]; exact Mem.addOwn hFM50 (List.mem_append_right _ (List.mem_append_left _ hp)))
  have ho56 : RM50.blk b14 = some (.cells (cl u8 (Nu S ls f)) 23 (0, 0)) := by rw [hRM50]; exact Mem.addOwn hFM50 (List.mem_append_right _ (List.mem_append_right _ (List.mem_append_left _ (List.Mem.head _))))
  have ho57 : RM50.blk b11 = some (.cells (Qo (sH ((Xn ls).c) ((Xn ls).p) ((Xn ls).n))) 53 (0, 0)) := by rw [hRM50]; exact Mem.addOwn hFM50 (List.mem_append_right _ (List.mem_append_right _ (List.mem_append_left _ (List.Mem.tail _ (List.Mem.head _)))))
  have ho58 : RM50.blk b7 = some (.cells (cl u8 f) 23 (0, 0)) := by rw [hRM50]; exact Mem.addOwn hFM50 (List.mem_append_right _ (List.mem_append_right _ (List.mem_append_right _ (List.mem_append_right _ (List.Mem.head _)))))
  have ho59 : RM50.blk b4 = some (.cells (Qo (sS S vk)) 26 (0, 0)) := by rw [hRM50]; exact Mem.addOwn hFM50 (List.mem_append_right _ (List.mem_append_right _ (List.mem_append_right _ (List.mem_append_right _ (List.Mem.tail _ (List.Mem.head _))))))
  have hr60 : RdK RM50.blk Jt 65 vk S.ks := by rw [hRM50]; exact RdK.mono hk fun b o e => Mem.addRest hFM50 e
  have hT61 : Tabs RM50.blk := by rw [hRM50]; exact Tabs.mono hT fun b o e => Mem.addRest hFM50 e
  refine Dl M500 [(0, false), (1, false), (2, false), (4, false), (5, false), (7, false), (3, true), (6, true), (8, true), (9, false), (10, false), (11, false), (12, false)] 13 rfl Xw <| yqH rfl (fun w _H _hx => Qp Xq rfl Zl s14 (_hx.rest _ _ ho56) Nj) <| N8 rfl (Vo (ps := []) (c := (cl u8 (List.replicate 12 0))) Qa9 Pj Y0 X7 rfl) <| N8 rfl (Yp s1) <| N8 rfl (Yp s2) <| yqH rfl (fun w _H _hx => Jd (i := 0) (j := 40) (Rd.ofRest hr52 _hx) Zu Y0 rfl (Zi _ _) (Yh (k := .i64) (i := 40) rfl) oM sL sL) <| N8 rfl (Yp s12) ?_
  refine Qeu rfl rfl (fun w62 e62 => ?_)
  have m62 := M500.ext e62
  refine Vp.mono (oc34 (Kt rfl) (Qcg vb lb _ (Rd.ofRest hr51 m62) sL)) ?_
  rintro rq64 w63 ⟨Hsq64, grq64, k_w63⟩
  have m63 : Mem _ _ (Hsq64 ++ ([])) := Mem.new (H := []) (H' := Hsq64) m62 k_w63
  refine ⟨⟨_, m63⟩, ?_⟩
  refine Qeu rfl rfl (fun w65 e65 => ?_)
  have m65 := m63.ext e65
  refine Vp.mono (Xp (f := u8) (Hs := Hsq64) (H := []) m65 grq64 rfl rfl (Rd.cast (l' := (ls.drop 0).take 40) (Rd.sub (Rd.ofRest hr52 m65) oM sL sL) rfl) Zu Zu Y0 rfl Qy sL sL) ?_
  rintro sv66 w66 ⟨Hs66, m66, g66⟩
  replace g66 : Xe u8 5 sv66 (lb ++ ((ls.drop 0).take 40)) Hs66 := g66
  refine ⟨⟨_, m66⟩, ?_⟩
  refine Qeu rfl rfl (fun w67 e67 => ?_)
  have m67 := m66.ext e67
  refine Vp.mono (oc54 (Hm rfl rfl rfl rfl) (c_open _ _ sv66 (lb ++ ((ls.drop 0).take 40)) vrq5 (hdR ls) _ (hT61.mono fun b o e => (m67).rest b o e) sL sL (g66.rd m67) sL (Rd.ofRest hg53 m67) sL)) ?_
  rintro _ w68 ⟨vxq69, Hsq69, rfl, gvxq69, k_w68⟩
  have m68 : Mem _ _ (Hsq69 ++ (Hs66 ++ ([]))) := Mem.new (H := Hs66 ++ ([])) (H' := Hsq69) m67 k_w68
  refine ⟨⟨_, m68⟩, ?_⟩
  refine N8 rfl (Yp rfl) <| N8 (v := vxq69) rfl (Zm rfl rfl) <| N8 (v := (i64 (Tn (Nu S ls f) (List.replicate 12 0) (lb ++ ((ls.drop 0).take 40)) (hdR ls)))) rfl (Zm rfl rfl) <| N8 rfl (Uw (v := vxq69) rfl) <| Gs m68 fun w70 m70 => ?_
  have hX71 := m70
  rw [hRM50] at hX71
  have m72 : Mem w70 (Qu w0) (Hsq69 ++ (Hs66 ++ ([(b8, .cells (Qo (sS (Qbq S ls f) vj)) 26 (0, 0))] ++ (Hj ++ ([(b14, .cells (cl u8 (Nu S ls f)) 23 (0, 0)), (b11, .cells (Qo (sH ((Xn ls).c) ((Xn ls).p) ((Xn ls).n))) 53 (0, 0))] ++ (Hrq5 ++ ([(b7, .cells (cl u8 f) 23 (0, 0)), (b4, .cells (Qo (sS S vk)) 26 (0, 0))]))))))) := ymA (Mem.back hFM50 hX71)
  refine Sz rfl ?_
  refine rN (Qa (sR ?_))
  refine Ya rfl <| Qd (Jw (b := 0) rfl rfl) <| rN ?_
  refine Z8 rfl (fun hc73 => ?_) (fun hc73 => ?_)
  ·
   have hc73p := bne_iff_ne.1 hc73
   refine sR <| Qd (Jk X3 Ja s4 ((Mem.pick7 Hsq69 Hs66 [_] Hj [_, _] Hrq5 [_] [_] _ m72)).h0) <| Ya rfl <| Vk (J8 Ja s8 rfl ((Mem.pick2 Hsq69 Hs66 [_] _ m72)).h0 (Gx (RdK.one (RdK.ofRest hk m72)))) ?_
   rintro _ w74 uq74
   have m74 : Mem _ _ ([_] ++ (Hsq69 ++ (Hs66 ++ (Hj ++ ([_, _] ++ (Hrq5 ++ ([_, _]))))))) := Mem.upd0 (Mem.pick2 Hsq69 Hs66 [_] _ m72) uq74
   refine Zz Yj <| Sz rfl ?_
   refine rN (Xb (Y3 ?_))
   refine Qv [(Value.agg (Qo (sS S vk))), Yj, (i64 (Tn (Nu S ls f) (List.replicate 12 0) (lb ++ ((ls.drop 0).take 40)) (hdR ls)))] ⟨⟨_, s8, J4 X3 Ja m74.h0⟩, rfl, rfl, trivial⟩ ?_
   have hon : Qc3 (Nu S ls f) lb ls = (Tn (Nu S ls f) (List.replicate 12 0) (lb ++ ((ls.drop 0).take 40)) (hdR ls)) := by unfold Qc3; rw [← hrr]; rfl
   have m75 := Mem.drop [_] _ m74
   have m76 := Mem.drop Hsq69 _ m75
   have m77 := Mem.drop Hs66 _ m76
   have m78 := Mem.drop Hj _ m77
   have m79 := Mem.drop [_] _ m78
   have m80 := Mem.drop [_] _ m79
   have m81 := Mem.drop Hrq5 _ m80
   have m82 := Mem.drop [_] _ m81
   have m83 := Mem.drop [_] _ m82
   obtain ⟨ho1, ho2, ho3, ho4⟩ := out_2 hd1 (by rw [hon]; exact bne_iff_ne.1 hc73)
   rw [ho1, ho2, ho3, ho4]
   exact ⟨Value.slice none 0 0, [], Value.slice none 0 0, [], by rw [if_neg (by rw [hon]; exact bne_iff_ne.1 hc73)]; rw [hon]; rfl, Yz.none Jt 65 69, Xe.none u8 5, by simpa using m83⟩
  ·
   have hc73p := X0 hc73
   refine Qs (Qc (sR ?_))
   refine Qd (Jk X3 Ja s8 ((Mem.pick2 Hsq69 Hs66 [_] _ m72)).h0) <| Zp vxq69 <| Vk (J8 Ja s8 rfl ((Mem.pick2 Hsq69 Hs66 [_] _ m72)).h0 (Gx gj.one)) ?_
   rintro _ w84 uq84
   have m84 : Mem _ _ ([_] ++ (Hsq69 ++ (Hs66 ++ (Hj ++ ([_, _] ++ (Hrq5 ++ ([_, _]))))))) := Mem.upd0 (Mem.pick2 Hsq69 Hs66 [_] _ m72) uq84
   refine Zz vxq69 <| Zz (i64 0) ?_
   refine rN (Xb ?_)
   refine Qv [(Value.agg (Qo (sS (Qbq S ls f) vj))), vxq69, (i64 0)] ⟨⟨_, s8, J4 X3 Ja m84.h0⟩, rfl, rfl, trivial⟩ ?_
   have hon : Qc3 (Nu S ls f) lb ls = (Tn (Nu S ls f) (List.replicate 12 0) (lb ++ ((ls.drop 0).take 40)) (hdR ls)) := by unfold Qc3; rw [← hrr]; rfl
   have m85 := Mem.drop [_] _ m84
   have m86 := Mem.drop Hs66 _ (Mem.pick Hsq69 Hs66 _ m85)
   have m87 := Mem.drop [_] _ (Mem.pick2 Hsq69 Hj [_] _ m86)
   have m88 := Mem.drop [_] _ (Mem.pick2 Hsq69 Hj [_] _ m87)
   have m89 := Mem.drop Hrq5 _ (Mem.pick2 Hsq69 Hj Hrq5 _ m88)
   have m90 := Mem.drop [_] _ (Mem.pick2 Hsq69 Hj [_] _ m89)
   have m91 := Mem.drop [_] _ (Mem.pick2 Hsq69 Hj [_] _ m90)
   have m92 := (Mem.pick Hsq69 Hj _ m91)
   obtain ⟨ho1, ho2, ho3, ho4⟩ := out_3 hd1 (by rw [hon]; exact X0 hc73)
   rw [ho1, ho2, ho3, ho4]
   exact ⟨vj, Hj, vxq69, Hsq69, by rw [if_pos rfl]; rfl, gj, Xe.cast gvxq69 (by unfold opnP; rw [← hrr]; rfl), (by
    have hT := m92
    try simp only [List.append_assoc, List.cons_append, List.nil_append, List.append_nil] at hT ⊢
    exact hT)⟩
end Go.Proofs.YtkmiemlpfkfiiaaDoor
