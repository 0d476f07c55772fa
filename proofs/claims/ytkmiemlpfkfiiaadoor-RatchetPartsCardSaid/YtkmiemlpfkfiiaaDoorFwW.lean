/- The framework, part W: parts of slices whose elements take more cells than one. Conditions: none. -/
import Derived.Test.YtkmiemlpfkfiiaaDoorRa3
import Derived.Test.YtkmiemlpfkfiiaaDoorCuP
import Derived.Test.YtkmiemlpfkfiiaaDoorFwH
import Derived.Test.YtkmiemlpfkfiiaaDoorFwP
namespace Go.Proofs.YtkmiemlpfkfiiaaDoor
open Tryd
section
set_option linter.unusedVariables false
set_option linter.unusedSimpArgs false
attribute [local irreducible] Eh Yg Jj Wp Vd Wn Xk Ae Qc5 F6 Yt Qi
set_option maxHeartbeats 2000000 in
theorem Qdx (ro sh : Xg) (w0 : World)  (hro : ro.length = 32) (hsh : sh.length = 32) : X9 prog 42 #[(agg u8 ro), (agg u8 sh)] w0 (fun r w1 => r = (Value.tuple #[(agg u8 (Yg ro sh)), (agg u8 (Jj ro sh))]) ∧ Ext w0 w1) := by
 refine Zb (args := [(agg u8 ro), (agg u8 sh)]) func42 rfl ntmps42 results42 rfl ?_
 have m0 : Mem w0 (Qu w0) [] := Mem.of_world w0
 have htl := Qkk ro sh
 have ht0 := Dj ro sh
 have ht1 := Ed ro sh
 unfold Yg at ht0; unfold Jj at ht1
 refine sR <| Y9 (Xa (f := u8) (l := ro) m0 rfl) fun w1 b2 m1 => Y9 (Xa (f := u8) (l := sh) m1 rfl) fun w2 b3 m2 => Y9 (Zc m2 Zl) fun w3 b4 m3 => Y9 (Zc m3 Zl) fun w4 b5 m4 => ?_
 refine rN (Qa ?_)
 refine Xl [(0, false), (1, false)] 2 Xw <| Yb rfl (Xo (i := 0) (j := 32) Xq Y0 rfl (Zi _ _) (Zi _ _) oM sL sL) <| Yb rfl (Xo (i := 0) (j := 32) Xq Y0 rfl (Zi _ _) (Zi _ _) oM sL sL) <| Gs m4 fun w5 m5 => Vy (oc70 (Hm rfl rfl rfl rfl) (Qqx (sla b2 0 1 0 32 32) ro (sla b3 0 1 0 32 32) sh (⟨#[114, 97, 116, 99, 104, 101, 116]⟩) _ _ (Rd.slaAll m5.h3 sL) sL (Rd.slaAll m5.h2 sL) sL sL sL)) ?_
 rintro rxq7 w6 ⟨Hsq7, grxq7, k_w6⟩
 have m6 : Mem _ _ (Hsq7 ++ ([_, _, _, _])) := Mem.new (H := [_, _, _, _]) (H' := Hsq7) m5 k_w6
 have gX8 : Yz (Ug u8) 32 23 rxq7 (Eh ro sh) Hsq7 := Yz.cast grxq7 (by unfold Eh; first | rfl | exact (Qbt Jg Jg).symm)
 refine Zz rxq7 ?_
 refine rN (Qa ?_)
 refine Kr Xw ?_
 have m9 := (Mem.pick2 Hsq7 [_, _, _] [_] _ m6)
 have m10 := (Mem.pick3 [_] Hsq7 [_, _] [_] _ m9)
 have m11 := (Mem.pick2 [_, _] Hsq7 [_] _ m10)
 have m12 := (Mem.pick [_, _, _] Hsq7 _ m11)
 have m13 := (Mem.pick2 Hsq7 [_, _, _] [_] _ m12)
 have hFM14 : Mem w6 (Qu w0) ([(b4, .cells (cl u8 (List.replicate 32 0)) 23 (0, 0))] ++ (Hsq7 ++ ([(b5, .cells (cl u8 (List.replicate 32 0)) 23 (0, 0)), (b3, .cells (cl u8 sh) 23 (0, 0)), (b2, .cells (cl u8 ro) 23 (0, 0))]))) := m13
 obtain ⟨RM14, hRM14⟩ : ∃ R2, R2 = Rest.add (Qu w0) (Hsq7 ++ ([(b5, .cells (cl u8 (List.replicate 32 0)) 23 (0, 0)), (b3, .cells (cl u8 sh) 23 (0, 0)), (b2, .cells (cl u8 ro) 23 (0, 0))])) := ⟨_, rfl⟩
 have M140 : Mem w6 RM14 [(b4, .cells (cl u8 (List.replicate 32 0)) 23 (0, 0))] := by rw [hRM14]; exact Mem.give hFM14
 have hg15 : RdK RM14.blk (Ug u8) 32 rxq7 (Eh ro sh) := gX8.rdIn (fun p hp => by rw [hRM14]; exact Mem.addOwn hFM14 (List.mem_append_left _ hp))
 have ho16 : RM14.blk b5 = some (.cells (cl u8 (List.replicate 32 0)) 23 (0, 0)) := by rw [hRM14]; exact Mem.addOwn hFM14 (List.mem_append_right _ (List.Mem.head _))
 have ho17 : RM14.blk b3 = some (.cells (cl u8 sh) 23 (0, 0)) := by rw [hRM14]; exact Mem.addOwn hFM14 (List.mem_append_right _ (List.Mem.tail _ (List.Mem.head _)))
 have ho18 : RM14.blk b2 = some (.cells (cl u8 ro) 23 (0, 0)) := by rw [hRM14]; exact Mem.addOwn hFM14 (List.mem_append_right _ (List.Mem.tail _ (List.Mem.tail _ (List.Mem.head _))))
 refine Dl M140 [(0, false), (1, false), (2, false), (3, false), (4, false), (5, false), (6, true)] 7 rfl Xw <| N8 rfl (Yp (v := rxq7) rfl) <| yqH rfl (fun w _H _hx => Jb (i := 0) (RdK.ofRest hg15 _hx) Qcx Zl rfl rfl oM sL) <| yqH (v := (agg u8 ((Eh ro sh).getD 0 []))) rfl (fun w _H _hx => D9 (i := (0 : Int)) (RdK.ofRest hg15 _hx) sL Xq Zl rfl rfl) <| N8 rfl (Yp (v := rxq7) rfl) <| yqH rfl (fun w _H _hx => Jb (i := 1) (RdK.ofRest hg15 _hx) Qcx Zl rfl rfl oM sL) <| yqH (v := (agg u8 ((Eh ro sh).getD 1 []))) rfl (fun w _H _hx => D9 (i := (1 : Int)) (RdK.ofRest hg15 _hx) sL Xq Zl rfl rfl) ?_
 refine Qgu rfl (fun w19 e19 => ?_)
 have m19 := M140.ext e19
 refine Vp.mono (Qj (f := u8) (l := (Eh ro sh).getD 0 []) Qy Zl rfl rfl sL m19.h0 Nj rfl) ?_
 rintro _ w20 uq20
 have m20 := m19.upd0 uq20
 refine ⟨⟨_, m20⟩, ?_⟩
 refine Gs m20 fun w21 m21 => ?_
 have hX22 := m21
 rw [hRM14] at hX22
 have m23 : Mem w21 (Qu w0) ([(b4, .cells (cl u8 ((Eh ro sh).getD 0 [])) 23 (0, 0))] ++ (Hsq7 ++ ([(b5, .cells (cl u8 (List.replicate 32 0)) 23 (0, 0)), (b3, .cells (cl u8 sh) 23 (0, 0)), (b2, .cells (cl u8 ro) 23 (0, 0))]))) := ymA (Mem.back hFM14 hX22)
 refine Vk (Qj (f := u8) (l := (Eh ro sh).getD 1 []) Qy Zl rfl rfl sL ((Mem.pick2 [_] Hsq7 [_] _ m23)).h0 Nj rfl) ?_
 rintro _ w24 uq24
 have m24 : Mem _ _ ([_, _] ++ (Hsq7 ++ ([_, _]))) := Mem.upd0 (Mem.pick2 [_] Hsq7 [_] _ m23) uq24
 refine rN (Xb ?_)
 refine Qv [(agg u8 ((Eh ro sh).getD 0 [])), (agg u8 ((Eh ro sh).getD 1 []))] ⟨⟨_, rfl, Xr Xq rfl Zl m24.h1 Nj⟩, ⟨_, rfl, Xr Xq rfl Zl m24.h0 Nj⟩, trivial⟩ ?_
 exact ⟨by unfold Yg Jj Eh; rfl, m24.toExt⟩
set_option maxHeartbeats 2000000 in
theorem c_rjoin (va : Value) (la : Xg) (vb : Value) (lb : Xg) (w0 : World)  (hra : Rd (Jl w0) u8 va la) (hla : la.length ≤ 1048576) (hrb : Rd (Jl w0) u8 vb lb) (hlb : lb.length ≤ 1048576) : X9 prog 38 #[va, vb] w0 (fun r w1 => ∃ Hs, Xe u8 5 r (la ++ lb) Hs ∧ Mem w1 (Qu w0) Hs) := by
 refine Zb (args := [va, vb]) func38 rfl ntmps38 results38 rfl ?_
 have m0 : Mem w0 (Qu w0) [] := Mem.of_world w0
 refine sR <| Zz Yj ?_
 refine rN (sR ?_)
 refine Y9 (Qw u8 [] Qy m0 Zu Y0 rfl (by simp [Ac]) rfl) fun w1 b6 m1 => Zp va <| Vy (Xp (f := u8) (Hs := [(b6, .cells (cl u8 ([])) 5 (0, 0))]) (H := []) m1 (Xe.of u8 5 b6 ([])) rfl rfl (Rd.ofRest hra m1) Zu Zu Y0 rfl Qy sL sL) ?_
 rintro sv2 w2 ⟨Hs2, m2, g2⟩
 replace g2 : Xe u8 5 sv2 la Hs2 := g2
 refine Zz sv2 ?_
 refine rN (sR ?_)
 refine Zp sv2 <| Zp vb <| Vy (Xp (f := u8) (Hs := Hs2) (H := []) m2 g2 rfl rfl (Rd.ofRest hrb m2) Zu Zu Y0 rfl Qy sL sL) ?_
 rintro sv3 w3 ⟨Hs3, m3, g3⟩
 replace g3 : Xe u8 5 sv3 (la ++ lb) Hs3 := g3
 refine Zz sv3 ?_
 refine rN (Xb ?_)
 refine Qv [sv3] ⟨rfl, trivial⟩ ?_
 exact ⟨Hs3, Xe.cast g3 X7, (by
  have hT := m3
  try simp only [List.append_assoc, List.cons_append, List.nil_append, List.append_nil] at hT ⊢
  exact hT)⟩
end --m
section
set_option linter.unusedVariables false
set_option linter.unusedSimpArgs false
def barB (bs : List Nat) (kk : Nat) (fs : List Nat) (i : Nat) : Bool := (List.range kk).all fun j => Nat.beq j i || (bs.getD i 0).testBit j || (bs.getD j 0).testBit i || fs.contains j
theorem Qp3 {l : List Oper} {bs : List Nat} {kk i j : Nat} {fs : List Nat} {e k : Bool} (hpo : Ns l bs (j, k) (i, e) = true) (hnb : (bs.getD i 0).testBit j = false) (hj : j < kk) (hf : fs.contains j = false) : barB bs kk fs i = false := by
 simp only [Ns, Bool.and_eq_true, Bool.not_eq_true'] at hpo
 unfold barB
 rw [Bool.eq_false_iff]
 intro h
 have := List.all_eq_true.1 h j (by simpa using hj)
 simp only [hpo.1.1, hpo.1.2, hnb, hf, Bool.or_false, Bool.false_or] at this
 cases this
def DB (P : Program) (n : Nat) (l : List Oper) (tail : List Oper) (N : (Nat → Value) → World → Prop) (bs : List Nat) (kk : Nat) (fs : List Nat) : (World → Prop) → List (Nat × Bool) → (Nat → Value) → World → Prop
 | _, [], fr, w0 => ∀ w, Ext w0 w → RW P n l.toArray tail N fr w
 | K, (i, false) :: r, fr, w0 => ∃ o, l[i]? = some o ∧ (∀ d, o.dst = some d → d < n) ∧
   Uy l fr o (∃ v, (∀ w, (K w ∨ fs.contains i = true) → Vp P fr w o.op o.type fun v' w' => v' = v ∧ Ext w w') ∧ DB P n l tail N bs kk fs K r (N9 fr o.dst v) w0) (DB P n l tail N bs kk fs K r (N9 fr o.dst undef) w0)
 | K, (i, true) :: r, fr, w0 => ∃ o, l[i]? = some o ∧ (∀ d, o.dst = some d → d < n) ∧
   ∀ w, Ext w0 w → Uy l fr o (Vp P fr w o.op o.type fun v w' => ∃ K', K' w' ∧ G6 K' ∧ ((∀ u, K' u → K u) ∨ barB bs kk fs i = true) ∧ DB P n l tail N bs kk fs K' r (N9 fr o.dst v) w')
    (∃ K', K' w ∧ G6 K' ∧ ((∀ u, K' u → K u) ∨ barB bs kk fs i = true) ∧ DB P n l tail N bs kk fs K' r (N9 fr o.dst undef) w)
theorem DB.ext {P : Program} {n : Nat} {l tail : List Oper} {N : (Nat → Value) → World → Prop} {bs : List Nat} {kk : Nat} {fs : List Nat} {K : World → Prop} : ∀ {r : List (Nat × Bool)} {fr : Nat → Value} {w0 w : World}, DB P n l tail N bs kk fs K r fr w0 → Ext w0 w → DB P n l tail N bs kk fs K r fr w
 | [], _, _, _, h, e => fun w' e' => h w' (e.trans e')
 | (_, false) :: _, _, _, _, ⟨o, ho, hd, h⟩, e => ⟨o, ho, hd, h.mono (fun ⟨v, hv, hk⟩ => ⟨v, hv, hk.ext e⟩) (fun hk => hk.ext e)⟩
 | (_, true) :: _, _, _, _, ⟨o, ho, hd, h⟩, e => ⟨o, ho, hd, fun w' e' => h w' (e.trans e')⟩
theorem DB.take {P : Program} {n : Nat} {l tail : List Oper} {N : (Nat → Value) → World → Prop} {K : World → Prop} (hK : G6 K) {bs : List Nat} {kk : Nat} {fs : List Nat} {i : Nat} {e : Bool} {r2 : List (Nat × Bool)} :
  ∀ (r1 : List (Nat × Bool)) (fr : Nat → Value) (w0 w : World), DB P n l tail N bs kk fs K (r1 ++ (i, e) :: r2) fr w0 → Ext w0 w → K w → (∀ p ∈ r1, Ns l bs p (i, e) = true ∧ (bs.getD i 0).testBit p.1 = false ∧ p.1 < kk) →
   Qlg P l fr w i n fun fr' w' => ∃ K', K' w' ∧ G6 K' ∧ ((∀ u, K' u → K u) ∨ barB bs kk fs i = true) ∧ DB P n l tail N bs kk fs K' (r1 ++ r2) fr' w' := by
 intro r1
 induction r1 with
 | nil =>
  intro fr w0 w h he hw _
  cases e with
  | false =>
   obtain ⟨o, ho, hd, h⟩ := h
   exact ⟨o, ho, hd, h.mono (fun ⟨v, hv, hk⟩ => (hv w (.inl hw)).mono (by rintro _ _ ⟨rfl, e⟩; exact ⟨K, hK _ _ hw e, hK, .inl fun _ h => h, hk.ext (he.trans e)⟩)) (fun hk => ⟨K, hw, hK, .inl fun _ h => h, hk.ext he⟩)⟩
  | true =>
   obtain ⟨o, ho, hd, h⟩ := h
   exact ⟨o, ho, hd, h w he⟩
 | cons p r1 ih =>
  intro fr w0 w h he hw hp
  obtain ⟨j, k⟩ := p
  obtain ⟨hpo, hnb, hjk⟩ := hp (j, k) X7
  have htr : ∀ {K' : World → Prop}, ((∀ u, K' u → K u) ∨ barB bs kk fs i = true) → ∀ u, (K' u ∨ fs.contains j = true) → (K u ∨ fs.contains j = true) := by
   intro K' h u hu
   cases hf : fs.contains j with
   | true => exact .inr rfl
   | false =>
    rw [hf] at hu
    exact .inl (h.resolve_right (by rw [Qp3 hpo hnb hjk hf]; decide) u (hu.resolve_right Jg))
  simp only [Ns, Bool.and_eq_true, Bool.or_eq_true, Bool.not_eq_true'] at hpo
  rw [hnb] at hpo
  obtain ⟨_, hor⟩ := hpo
  obtain ⟨hk, hap⟩ := hor.resolve_left X7
  subst hk
  obtain ⟨a, ha, hda, hg⟩ := h
  have both : ∀ u, DB P n l tail N bs kk fs K (r1 ++ (i, e) :: r2) (N9 fr a.dst u) w0 →
    Qlg P l fr w i n fun fr' w' => ∃ K', (K' w' ∧ G6 K' ∧ ((∀ u, K' u → K u) ∨ barB bs kk fs i = true)) ∧ ∃ b, l[i]? = some b ∧ (∃ v', fr' = N9 fr b.dst v') ∧ DB P n l tail N bs kk fs K' (r1 ++ r2) (N9 fr' a.dst u) w' := by
   intro u hu
   obtain ⟨b, hb, hdb, hs⟩ := ih _ _ _ hu he hw (fun p hp' => hp p (List.mem_cons_of_mem _ hp'))
   obtain ⟨h1, h2, h3⟩ := Tt hap ha hb
   have hag : ∀ s ∈ F9 l b, N9 fr a.dst u s = fr s := Qbz h1
   refine ⟨b, hb, hdb, (hs.frame hag).mono (fun ho => (ho.frame hag).mono ?_) ?_⟩
   ·rintro v w' ⟨K', e1, e2, e3, hk⟩
    refine ⟨K', ⟨e1, e2, e3⟩, b, hb, ⟨v, rfl⟩, ?_⟩
    rw [← Qdj h3]; exact hk
   rintro ⟨K', e1, e2, e3, hk⟩
   refine ⟨K', ⟨e1, e2, e3⟩, b, hb, ⟨_, rfl⟩, ?_⟩
   rw [← Qdj h3]; exact hk
  have fin : ∀ b, l[i]? = some b → ∀ s ∈ F9 l a, ∀ v', N9 fr b.dst v' s = fr s := by
   intro b hb s hs v'
   exact Qbz (Tt hap ha hb).2.1 s hs
  unfold Uy at hg
  cases hgu : a.guard with
  | none =>
   rw [hgu] at hg
   obtain ⟨u, hev, hk⟩ := hg
   obtain ⟨b, hb, hdb, hs⟩ := both u hk
   refine ⟨b, hb, hdb, hs.mono (fun ho => ho.mono ?_) ?_⟩
   all_goals
    intros
    rename_i hh
    obtain ⟨K', ⟨e1, e2, e3⟩, b', hb', ⟨v', hv'⟩, hk'⟩ := hh
    refine ⟨K', e1, e2, e3, a, ha, hda, ?_⟩
    simp only [Uy, hgu]
    refine ⟨u, fun w2 hw2 => (hev w2 (htr e3 w2 hw2)).frame (l := l) fun s hs => ?_, hk'⟩
    rw [hv']; exact (fin b' hb' s hs v').symm
  | some g =>
   obtain ⟨jj, want⟩ := g
   rw [hgu] at hg
   obtain ⟨s, bb, hs1, hs2, hyes, hno⟩ := hg
   have hmem : s ∈ F9 l a := by simp [F9, hgu, hs1]
   by_cases hbw : bb = some want
   ·obtain ⟨u, hev, hk⟩ := hyes hbw
    obtain ⟨b, hb, hdb, hs⟩ := both u hk
    refine ⟨b, hb, hdb, hs.mono (fun ho => ho.mono ?_) ?_⟩
    all_goals
     intros
     rename_i hh
     obtain ⟨K', ⟨e1, e2, e3⟩, b', hb', ⟨v', hv'⟩, hk'⟩ := hh
     refine ⟨K', e1, e2, e3, a, ha, hda, ?_⟩
     simp only [Uy, hgu]
     refine ⟨s, bb, hs1, by rw [hv', fin b' hb' s hmem v']; exact hs2, fun _ => ⟨u, fun w2 hw2 => (hev w2 (htr e3 w2 hw2)).frame (l := l) fun s hs => ?_, hk'⟩, fun hne => absurd hbw hne⟩
     rw [hv']; exact (fin b' hb' s hs v').symm
   have hk := hno hbw
   obtain ⟨b, hb, hdb, hs⟩ := both _ hk
   refine ⟨b, hb, hdb, hs.mono (fun ho => ho.mono ?_) ?_⟩
   all_goals
    intros
    rename_i hh
    obtain ⟨K', ⟨e1, e2, e3⟩, b', hb', ⟨v', hv'⟩, hk'⟩ := hh
    refine ⟨K', e1, e2, e3, a, ha, hda, ?_⟩
    simp only [Uy, hgu]
    exact ⟨s, bb, hs1, by rw [hv', fin b' hb' s hmem v']; exact hs2, fun heq => absurd heq hbw, fun _ => hk'⟩
theorem db_run {fs : List Nat} {P : Program} {n : Nat} {l le : List Oper} {N : (Nat → Value) → World → Prop} {plan : List (Nat × Bool)} {k : Nat} (hll : le.length = l.length) (hp : Bi l le plan k = true) {rd : Option Nat} {ds : List Deferred} {Q : Exit → Act → World → Prop}
  (hQ : ∀ a' fr' w', Frm ds a' n fr' → N fr' w' → Q .normal a' w') :
  ∀ (σ done : List Nat) (K : World → Prop) (r : List (Nat × Bool)) (fr : Nat → Value) (w0 w : World) (a : Act), G6 K → K w → Nh .any le done σ → (∀ i ∈ done, Nv .any le i (· ∈ done)) → r.Sublist plan →
   (∀ p ∈ plan, p ∈ r ∨ p.1 ∈ done) → (∀ p ∈ r, p.1 ∉ done) → (∀ i ∈ done, i < k) → DB P n l (l.drop k) N (Qbw le) k fs K r fr w0 → Ext w0 w → Frm ds a n fr → wpOpsIn (FR rd) 0 P l.toArray Q σ a w := by
 simp only [Bi, Bool.and_eq_true, List.all_eq_true, List.mem_range, List.any_eq_true] at hp
 obtain ⟨⟨⟨hpairs, hcov⟩, hlt⟩, htail⟩ := hp
 have htail' : ∀ j, k ≤ j → j < l.length → ∀ i, i < j → ((Qbw le).getD j 0).testBit i = true := by
  intro j hj hjl i hi
  have := htail j hjl
  simp only [Bool.or_eq_true, List.all_eq_true, List.mem_range] at this
  rcases this with h | h
  ·have : j < k := Nat.le_of_ble_eq_true h
   omega
  exact h i hi
 have hpw := Pm hpairs
 intro σ
 induction σ with
 | nil =>
  intro done K r fr w0 w a hK hw hs hc hsub hcv hnd hdk hdw he ha
  cases r with
  | cons p r =>
   exfalso
   obtain ⟨i, e⟩ := p
   have : ∃ o, l[i]? = some o := by cases e <;> exact ⟨hdw.choose, hdw.choose_spec.1⟩
   obtain ⟨o, ho⟩ := this
   have hi : i < l.length := by
    rcases Nat.lt_or_ge i l.length with h | h
    ·exact h
    rw [List.getElem?_eq_none h] at ho; cases ho
   exact hnd (i, e) X7 (hs i (by omega))
  | nil =>
   have hkl : l.length ≤ k := by
    rcases Nat.lt_or_ge k l.length with h | h
    ·exact absurd (hdk k (hs k (by omega))) (by omega)
    exact h
   have := hdw w he rd ds a ha Q hQ
   rw [List.drop_eq_nil_of_le hkl] at this
   exact this
 | cons i σ ih =>
  intro done K r fr w0 w a hK hw hs hc hsub hcv hnd hdk hdw he ha
  cases r with
  | nil =>
   have hdone : ∀ i, i ∈ done ↔ i < k := by
    intro i
    refine ⟨hdk i, fun h => ?_⟩
    obtain ⟨p, hp1, hp2⟩ := hcov i h
    have := (hcv p hp1).resolve_left X7
    rwa [Nat.eq_of_beq_eq_true hp2] at this
   have hkl : k ≤ l.length := by
    rcases Nat.lt_or_ge l.length k with h | h
    ·exfalso
     obtain ⟨h1, h2, _, _⟩ := hs
     exact h2 ((hdone i).2 (by omega))
    exact h
   have hσ := Qir (fun j hj hjl => htail' j hj (by omega)) _ _ k (Nat.le_refl _) (by omega) hdone hc hs
   rw [hσ, hll]
   have hlen : l.length - k = (l.drop k).length := by simp
   rw [hlen, wpOpsIn_eq_wpListIn (l.drop k) k (by intro j; simp)]
   exact hdw w he rd ds a ha Q hQ
  | cons p0 r0 =>
   obtain ⟨h1, h2, h3, h4⟩ := hs
   have hbef : ∀ j, ((Qbw le).getD i 0).testBit j = true → j ∈ done := Qju (D := (· ∈ done)) hc i h1 h3
   have hik : i < k := by
    rcases Nat.lt_or_ge i k with h | h
    ·exact h
    exfalso
    have hp0 : p0 ∈ plan := hsub.subset X7
    have hb : p0.1 < k := Nat.le_of_ble_eq_true (hlt p0 hp0)
    exact hnd p0 X7 (hbef _ (htail' i h (by omega) p0.1 (by omega)))
   obtain ⟨q, hq1, hq2⟩ := hcov i hik
   obtain ⟨qi, e⟩ := q
   have hqi : qi = i := Nat.eq_of_beq_eq_true hq2
   subst hqi
   have hqr : (qi, e) ∈ p0 :: r0 := (hcv _ hq1).resolve_right h2
   obtain ⟨r1, r2, hr⟩ := List.append_of_mem hqr
   rw [hr] at hdw hsub hnd hcv
   have hpwr := hpw.sublist hsub
   rw [List.pairwise_append] at hpwr
   obtain ⟨_, hpw2, hpw12⟩ := hpwr
   rw [List.pairwise_cons] at hpw2
   have hstep := DB.take hK (bs := Qbw le) (fs := fs) r1 fr w0 w hdw he hw (fun p hp => ⟨hpw12 p hp _ X7, by
    cases hb : ((Qbw le).getD qi 0).testBit p.1 with
    | false => rfl
    | true => exact absurd (hbef _ hb) (hnd p (by simp [hp])), Nat.le_of_ble_eq_true (hlt p (hsub.subset (by simp [hp])))⟩)
   refine hstep.wpOps ha fun a' fr' w' hf ⟨K', e1, e2, _, hdw'⟩ => ?_
   have hne : ∀ p, Ns l (Qbw le) p (qi, e) = true ∨ Ns l (Qbw le) (qi, e) p = true → p.1 ≠ qi := by
    intro p h heq
    rcases h with h | h <;>
     ·simp only [Ns, heq, Nat.beq_refl, Bool.not_true, Bool.false_and] at h; cases h
   refine ih (qi :: done) K' (r1 ++ r2) fr' w' w' a' e2 e1 h4 ?_ ?_ ?_ ?_ ?_ hdw' (Ext.refl _) hf
   ·intro j hj
    rcases List.mem_cons.1 hj with rfl | hj
    ·exact fun o ho e he hb => List.mem_cons_of_mem _ (h3 o ho e he hb)
    exact fun o ho e he hb => List.mem_cons_of_mem _ (hc j hj o ho e he hb)
   ·exact (List.Sublist.append (List.Sublist.refl r1) (List.sublist_cons_self _ _)).trans hsub
   ·intro p hp
    rcases hcv p hp with h | h
    ·rcases List.mem_append.1 h with h | h
     ·exact .inl (by simp [h])
     rcases List.mem_cons.1 h with rfl | h
     ·exact .inr X7
     exact .inl (by simp [h])
    exact .inr (by simp [h])
   ·intro p hp
    rcases List.mem_append.1 hp with h | h
    ·rw [List.mem_cons]
     rintro (h' | h')
     ·exact hne p (.inl (hpw12 p h _ X7)) h'
     exact hnd p (by simp [h]) h'
    rw [List.mem_cons]
    rintro (h' | h')
    ·exact hne p (.inr (hpw2.1 p h)) h'
    exact hnd p (by simp [h]) h'
   intro j hj
   rcases List.mem_cons.1 hj with rfl | hj
   ·exact hik
   exact hdk j hj
theorem Qbo {P : Program} {n : Nat} {l le : List Oper} {N : (Nat → Value) → World → Prop} {fr : Nat → Value} {w : World} (plan : List (Nat × Bool)) (k : Nat) (fs : List Nat) (hll : le.length = l.length) (hp : Bi l le plan k = true)
  (h : DB P n l (l.drop k) N (Qbw le) k fs (Ext w) plan fr w) : Qaw P n l le N fr w :=
 ⟨hll, fun rd ds σ hs Q hQ a w1 he ha => db_run hll hp hQ σ [] (Ext w) plan fr w w1 a (Le w) he hs X7 (List.Sublist.refl _) (fun p h => .inl h) X7 X7 h he ha⟩
section
variable {P : Program} {n : Nat} {l : List Oper} {tail : List Oper} {N : (Nat → Value) → World → Prop} {bs : List Nat} {kk : Nat} {fs : List Nat} {fr : Nat → Value} {w0 : World} {r : List (Nat × Bool)} {i : Nat} {op : Op} {ty : TypeId} {pos : String} {aft : Array Edge}
theorem Qgx {K : World → Prop} (h : ∀ w, Ext w0 w → RW P n l.toArray tail N fr w) : DB P n l tail N bs kk fs K [] fr w0 := h
theorem Qgw {d : Nat} {v : Value} (ho : l[i]? = some ⟨some d, op, ty, pos, aft, none⟩) (hd : Nat.blt d n = true) (hf : fs.contains i = false) (h : ∀ w, Ext w0 w → Vp P fr w op ty fun v' w' => v' = v ∧ Ext w w') (k : DB P n l tail N bs kk fs (Ext w0) r (upd fr d v) w0) :
  DB P n l tail N bs kk fs (Ext w0) ((i, false) :: r) fr w0 := ⟨_, ho, Nw hd, ⟨v, fun w hw => h w (hw.resolve_right (by rw [hf]; decide)), k⟩⟩
theorem G8 {d : Nat} {v : Value} (ho : l[i]? = some ⟨some d, op, ty, pos, aft, none⟩) (hd : Nat.blt d n = true) (hf : fs.contains i = false) (h : ∀ w, Ext w0 w → Ko P fr w op ty v) (k : DB P n l tail N bs kk fs (Ext w0) r (upd fr d v) w0) :
  DB P n l tail N bs kk fs (Ext w0) ((i, false) :: r) fr w0 := Qgw ho hd hf (fun w hw => (h w hw).opR.mono (by rintro _ _ ⟨rfl, rfl⟩; exact ⟨rfl, Ext.refl _⟩)) k
theorem db_f {d : Nat} {v : Value} (ho : l[i]? = some ⟨some d, op, ty, pos, aft, none⟩) (hd : Nat.blt d n = true) (h : ∀ w, Ko P fr w op ty v) (k : DB P n l tail N bs kk fs (Ext w0) r (upd fr d v) w0) :
  DB P n l tail N bs kk fs (Ext w0) ((i, false) :: r) fr w0 := ⟨_, ho, Nw hd, ⟨v, fun w _ => (h w).opR.mono (by rintro _ _ ⟨rfl, rfl⟩; exact ⟨rfl, Ext.refl _⟩), k⟩⟩
theorem db_n (hb : barB bs kk fs i = true) (ho : l[i]? = some ⟨none, op, ty, pos, aft, none⟩) (h : ∀ w, Ext w0 w → Vp P fr w op ty fun v w' => DB P n l tail N bs kk fs (Ext w') r fr w') :
  DB P n l tail N bs kk fs (Ext w0) ((i, true) :: r) fr w0 := ⟨_, ho, fun _ h => (by cases h), fun w e => (h w e).mono fun v w' hk => ⟨Ext w', Ext.refl _, Le _, .inr hb, hk⟩⟩
end
end --m
section
set_option linter.unusedVariables false
section
variable {P : Program} {fr : Nat → Value} {w : World} {ty T E : TypeId} {x : Operand} {z : Option Value} {k kb : Nat} {α : Type} {enc : α → List Value} {v : Value} {l : List α} {m : Nat → Option Obj}
theorem Rx {lo hi : Option Operand} {i j : Int} (h : RdK m enc k v l) (hu : P.underlying T = some (.slice E)) (hi' : Jm P E = some (z, k, kb)) (hx : Qq fr x = v) (hlo : Qc2 lo fr 0 i) (hhi : Qc2 hi fr (l.length : Int) j) (h0 : 0 ≤ i) (h1 : i ≤ j) (h2 : j ≤ l.length) :
  Ko P fr w (.slice T x lo hi none) ty (Ph v i j k) := by
 obtain ⟨a, cap, rfl, hle, h4⟩ := h.is
 exact Qdd hu hi' hx hlo hhi h0 h1 (by omega)
theorem Qnz (l : List α) : ((l.drop (1 : Int).toNat).take ((l.length : Int).toNat - (1 : Int).toNat)) = l.drop 1 := by
 rw [Int.toNat_natCast, show (1 : Int).toNat = 1 from rfl]
 exact List.take_of_length_le X7
end
end --m
end Go.Proofs.YtkmiemlpfkfiiaaDoor
