/- The framework, part W: parts of slices whose elements take more cells than one. Conditions: none. -/
import Derived.Test.YtkmiemlpfkfiiaaDoorRa3
import Derived.Test.YtkmiemlpfkfiiaaDoorCuP
import Derived.Test.YtkmiemlpfkfiiaaDoorFwH
import Derived.Test.YtkmiemlpfkfiiaaDoorFwP
namespace Go.Proofs.YtkmiemlpfkfiiaaDoor
open Bool renaming and_eq_true → bF, not_eq_true' → dm
open List renaming all_eq_true → bz, mem_append_right → aG, mem_cons_of_mem → az, replicate → aA
open List.Mem renaming head → aU, tail → aH
open Mem renaming addOwn → ae, of_world → aY, pick2 → aN
open Nat renaming blt → dL, eq_of_beq_eq_true → dQ, le_of_ble_eq_true → bQ, lt_or_ge → ay
open Tryd
section
set_option linter.unusedVariables false
set_option linter.unusedSimpArgs false
attribute [local irreducible] Eg X8 Y7 Wh Wv Kw Xc Gv Si Gn Yn Yy
set_option maxHeartbeats 2000000 in
theorem Qed (ro sh : Z4) (w0 : World)  (hro : ro.length = 32) (hsh : sh.length = 32) : Xz prog 42 #[(agg u8 ro), (agg u8 sh)] w0 (fun r w1 => r = (Value.tuple #[(agg u8 (X8 ro sh)), (agg u8 (Y7 ro sh))]) ∧ Ext w0 w1) := by
 refine Qz (args := [(agg u8 ro), (agg u8 sh)]) func42 rfl ntmps42 results42 rfl ?_
 have m0 : Mem w0 (Qs w0) [] := aY w0
 have htl := Qlf ro sh
 have ht0 := Di ro sh
 have ht1 := Ec ro sh
 unfold X8 at ht0; unfold Y7 at ht1
 refine sR <| Y5 (Z5 (f := u8) (l := ro) m0 rfl) fun w1 b2 m1 => Y5 (Z5 (f := u8) (l := sh) m1 rfl) fun w2 b3 m2 => Y5 (Q7 m2 Zh) fun w3 b4 m3 => Y5 (Q7 m3 Zh) fun w4 b5 m4 => ?_
 refine rN (Qa ?_)
 refine Xi [(0, false), (1, false)] 2 Xv <| X4 rfl (Xj (i := 0) (j := 32) Xn Yr rfl (Zd _ _) (Zd _ _) oM sL sL) <| X4 rfl (Xj (i := 0) (j := 32) Xn Yr rfl (Zd _ _) (Zd _ _) oM sL sL) <| Gf m4 fun w5 m5 => Vr (oc70 (Ry rfl rfl rfl rfl) (Qs1 (sla b2 0 1 0 32 32) ro (sla b3 0 1 0 32 32) sh (⟨#[114, 97, 116, 99, 104, 101, 116]⟩) _ _ (Rd.slaAll m5.h3 sL) sL (Rd.slaAll m5.h2 sL) sL sL sL)) ?_
 rintro rxq7 w6 ⟨Hsq7, grxq7, k_w6⟩
 have m6 : Mem _ _ (Hsq7 ++ ([_, _, _, _])) := Mem.new (H := [_, _, _, _]) (H' := Hsq7) m5 k_w6
 have gX8 : Yu (F6 u8) 32 23 rxq7 (Eg ro sh) Hsq7 := Yu.cast grxq7 (by unfold Eg; first | rfl | exact (Qbw Yx Yx).symm)
 refine Zx rxq7 ?_
 refine rN (Qa ?_)
 refine Jy Xv ?_
 have m9 := (aN Hsq7 [_, _, _] [_] _ m6)
 have m10 := (Mem.pick3 [_] Hsq7 [_, _] [_] _ m9)
 have m11 := (aN [_, _] Hsq7 [_] _ m10)
 have m12 := (Mem.pick [_, _, _] Hsq7 _ m11)
 have m13 := (aN Hsq7 [_, _, _] [_] _ m12)
 have hFM14 : Mem w6 (Qs w0) ([(b4, .cells (cl u8 (aA 32 0)) 23 (0, 0))] ++ (Hsq7 ++ ([(b5, .cells (cl u8 (aA 32 0)) 23 (0, 0)), (b3, .cells (cl u8 sh) 23 (0, 0)), (b2, .cells (cl u8 ro) 23 (0, 0))]))) := m13
 obtain ⟨RM14, hRM14⟩ : ∃ R2, R2 = Rest.add (Qs w0) (Hsq7 ++ ([(b5, .cells (cl u8 (aA 32 0)) 23 (0, 0)), (b3, .cells (cl u8 sh) 23 (0, 0)), (b2, .cells (cl u8 ro) 23 (0, 0))])) := ⟨_, rfl⟩
 have M140 : Mem w6 RM14 [(b4, .cells (cl u8 (aA 32 0)) 23 (0, 0))] := by rw [hRM14]; exact Mem.give hFM14
 have hg15 : RdK RM14.blk (F6 u8) 32 rxq7 (Eg ro sh) := gX8.rdIn (fun p hp => by rw [hRM14]; exact ae hFM14 (List.mem_append_left _ hp))
 have ho16 : RM14.blk b5 = some (.cells (cl u8 (aA 32 0)) 23 (0, 0)) := by rw [hRM14]; exact ae hFM14 (aG _ (aU _))
 have ho17 : RM14.blk b3 = some (.cells (cl u8 sh) 23 (0, 0)) := by rw [hRM14]; exact ae hFM14 (aG _ (aH _ (aU _)))
 have ho18 : RM14.blk b2 = some (.cells (cl u8 ro) 23 (0, 0)) := by rw [hRM14]; exact ae hFM14 (aG _ (aH _ (aH _ (aU _))))
 refine Dk M140 [(0, false), (1, false), (2, false), (3, false), (4, false), (5, false), (6, true)] 7 rfl Xv <| N8 rfl (Jb (v := rxq7) rfl) <| yqH rfl (fun w _H _hx => Y4 (i := 0) (RdK.ofRest hg15 _hx) Qc5 Zh rfl rfl oM sL) <| yqH (v := (agg u8 ((Eg ro sh).getD 0 []))) rfl (fun w _H _hx => D7 (i := (0 : Int)) (RdK.ofRest hg15 _hx) sL Xn Zh rfl rfl) <| N8 rfl (Jb (v := rxq7) rfl) <| yqH rfl (fun w _H _hx => Y4 (i := 1) (RdK.ofRest hg15 _hx) Qc5 Zh rfl rfl oM sL) <| yqH (v := (agg u8 ((Eg ro sh).getD 1 []))) rfl (fun w _H _hx => D7 (i := (1 : Int)) (RdK.ofRest hg15 _hx) sL Xn Zh rfl rfl) ?_
 refine Qhn rfl (fun w19 e19 => ?_)
 have m19 := M140.ext e19
 refine Vf.mono (Qg (f := u8) (l := (Eg ro sh).getD 0 []) Qr Zh rfl rfl sL m19.h0 Ph rfl) ?_
 rintro _ w20 uq20
 have m20 := m19.upd0 uq20
 refine ⟨⟨_, m20⟩, ?_⟩
 refine Gf m20 fun w21 m21 => ?_
 have hX22 := m21
 rw [hRM14] at hX22
 have m23 : Mem w21 (Qs w0) ([(b4, .cells (cl u8 ((Eg ro sh).getD 0 [])) 23 (0, 0))] ++ (Hsq7 ++ ([(b5, .cells (cl u8 (aA 32 0)) 23 (0, 0)), (b3, .cells (cl u8 sh) 23 (0, 0)), (b2, .cells (cl u8 ro) 23 (0, 0))]))) := ymA (Mem.back hFM14 hX22)
 refine Vd (Qg (f := u8) (l := (Eg ro sh).getD 1 []) Qr Zh rfl rfl sL ((aN [_] Hsq7 [_] _ m23)).h0 Ph rfl) ?_
 rintro _ w24 uq24
 have m24 : Mem _ _ ([_, _] ++ (Hsq7 ++ ([_, _]))) := Mem.upd0 (aN [_] Hsq7 [_] _ m23) uq24
 refine rN (Z8 ?_)
 refine Qq [(agg u8 ((Eg ro sh).getD 0 [])), (agg u8 ((Eg ro sh).getD 1 []))] ⟨⟨_, rfl, Xm Xn rfl Zh m24.h1 Ph⟩, ⟨_, rfl, Xm Xn rfl Zh m24.h0 Ph⟩, trivial⟩ ?_
 exact ⟨by unfold X8 Y7 Eg; rfl, m24.toExt⟩
set_option maxHeartbeats 2000000 in
theorem c_rjoin (va : Value) (la : Z4) (vb : Value) (lb : Z4) (w0 : World)  (hra : Rd (Jd w0) u8 va la) (hla : la.length ≤ 1048576) (hrb : Rd (Jd w0) u8 vb lb) (hlb : lb.length ≤ 1048576) : Xz prog 38 #[va, vb] w0 (fun r w1 => ∃ Hs, Z9 u8 5 r (la ++ lb) Hs ∧ Mem w1 (Qs w0) Hs) := by
 refine Qz (args := [va, vb]) func38 rfl ntmps38 results38 rfl ?_
 have m0 : Mem w0 (Qs w0) [] := aY w0
 refine sR <| Zx J3 ?_
 refine rN (sR ?_)
 refine Y5 (Qp u8 [] Qr m0 Zn Yr rfl (by simp [Bz]) rfl) fun w1 b6 m1 => Zm va <| Vr (Xh (f := u8) (Hs := [(b6, .cells (cl u8 ([])) 5 (0, 0))]) (H := []) m1 (Z9.of u8 5 b6 ([])) rfl rfl (Rd.ofRest hra m1) Zn Zn Yr rfl Qr sL sL) ?_
 rintro sv2 w2 ⟨Hs2, m2, g2⟩
 replace g2 : Z9 u8 5 sv2 la Hs2 := g2
 refine Zx sv2 ?_
 refine rN (sR ?_)
 refine Zm sv2 <| Zm vb <| Vr (Xh (f := u8) (Hs := Hs2) (H := []) m2 g2 rfl rfl (Rd.ofRest hrb m2) Zn Zn Yr rfl Qr sL sL) ?_
 rintro sv3 w3 ⟨Hs3, m3, g3⟩
 replace g3 : Z9 u8 5 sv3 (la ++ lb) Hs3 := g3
 refine Zx sv3 ?_
 refine rN (Z8 ?_)
 refine Qq [sv3] ⟨rfl, trivial⟩ ?_
 exact ⟨Hs3, Z9.cast g3 Ya, (by
  have hT := m3
  try simp only [List.append_assoc, List.cons_append, List.nil_append, List.append_nil] at hT ⊢
  exact hT)⟩
end --m
section
set_option linter.unusedVariables false
set_option linter.unusedSimpArgs false
def barB (bs : List Nat) (kk : Nat) (fs : List Nat) (i : Nat) : Bool := (List.range kk).all fun j => Nat.beq j i || (bs.getD i 0).testBit j || (bs.getD j 0).testBit i || fs.contains j
theorem Qry {l : List Oper} {bs : List Nat} {kk i j : Nat} {fs : List Nat} {e k : Bool} (hpo : Nr l bs (j, k) (i, e) = true) (hnb : (bs.getD i 0).testBit j = false) (hj : j < kk) (hf : fs.contains j = false) : barB bs kk fs i = false := by
 simp only [Nr, bF, dm] at hpo
 unfold barB
 rw [Bool.eq_false_iff]
 intro h
 have := List.all_eq_true.1 h j (by simpa using hj)
 simp only [hpo.1.1, hpo.1.2, hnb, hf, Bool.or_false, Bool.false_or] at this
 cases this
def DB (P : Program) (n : Nat) (l : List Oper) (tail : List Oper) (N : (Nat → Value) → World → Prop) (bs : List Nat) (kk : Nat) (fs : List Nat) : (World → Prop) → List (Nat × Bool) → (Nat → Value) → World → Prop
 | _, [], fr, w0 => ∀ w, Ext w0 w → RW P n l.toArray tail N fr w
 | K, (i, false) :: r, fr, w0 => ∃ o, l[i]? = some o ∧ (∀ d, o.dst = some d → d < n) ∧
   Ut l fr o (∃ v, (∀ w, (K w ∨ fs.contains i = true) → Vf P fr w o.op o.type fun v' w' => v' = v ∧ Ext w w') ∧ DB P n l tail N bs kk fs K r (N9 fr o.dst v) w0) (DB P n l tail N bs kk fs K r (N9 fr o.dst undef) w0)
 | K, (i, true) :: r, fr, w0 => ∃ o, l[i]? = some o ∧ (∀ d, o.dst = some d → d < n) ∧
   ∀ w, Ext w0 w → Ut l fr o (Vf P fr w o.op o.type fun v w' => ∃ K', K' w' ∧ Gs K' ∧ ((∀ u, K' u → K u) ∨ barB bs kk fs i = true) ∧ DB P n l tail N bs kk fs K' r (N9 fr o.dst v) w')
    (∃ K', K' w ∧ Gs K' ∧ ((∀ u, K' u → K u) ∨ barB bs kk fs i = true) ∧ DB P n l tail N bs kk fs K' r (N9 fr o.dst undef) w)
theorem DB.ext {P : Program} {n : Nat} {l tail : List Oper} {N : (Nat → Value) → World → Prop} {bs : List Nat} {kk : Nat} {fs : List Nat} {K : World → Prop} : ∀ {r : List (Nat × Bool)} {fr : Nat → Value} {w0 w : World}, DB P n l tail N bs kk fs K r fr w0 → Ext w0 w → DB P n l tail N bs kk fs K r fr w
 | [], _, _, _, h, e => fun w' e' => h w' (e.trans e')
 | (_, false) :: _, _, _, _, ⟨o, ho, hd, h⟩, e => ⟨o, ho, hd, h.mono (fun ⟨v, hv, hk⟩ => ⟨v, hv, hk.ext e⟩) (fun hk => hk.ext e)⟩
 | (_, true) :: _, _, _, _, ⟨o, ho, hd, h⟩, e => ⟨o, ho, hd, fun w' e' => h w' (e.trans e')⟩
theorem DB.take {P : Program} {n : Nat} {l tail : List Oper} {N : (Nat → Value) → World → Prop} {K : World → Prop} (hK : Gs K) {bs : List Nat} {kk : Nat} {fs : List Nat} {i : Nat} {e : Bool} {r2 : List (Nat × Bool)} :
  ∀ (r1 : List (Nat × Bool)) (fr : Nat → Value) (w0 w : World), DB P n l tail N bs kk fs K (r1 ++ (i, e) :: r2) fr w0 → Ext w0 w → K w → (∀ p ∈ r1, Nr l bs p (i, e) = true ∧ (bs.getD i 0).testBit p.1 = false ∧ p.1 < kk) →
   Qmd P l fr w i n fun fr' w' => ∃ K', K' w' ∧ Gs K' ∧ ((∀ u, K' u → K u) ∨ barB bs kk fs i = true) ∧ DB P n l tail N bs kk fs K' (r1 ++ r2) fr' w' := by
 intro r1
 induction r1 with
 | nil =>
  intro fr w0 w h he hw _
  cases e with
  | false =>
   obtain ⟨o, ho, hd, h⟩ := h
   exact ⟨o, ho, hd, h.mono (fun ⟨v, hv, hk⟩ => (hv w (.inl hw)).mono (by rintro _ _ ⟨rfl, e⟩; exact ⟨K, hK _ _ hw e, hK, .inl fun _ h => h, hk.ext (he.trans e)⟩)) (fun hk => ⟨K, hw, hK, .inl fun _ h => h, hk.ext he⟩)⟩
  | true =>
   obtain ⟨o, ho, hd, h⟩ := h
   exact ⟨o, ho, hd, h w he⟩
 | cons p r1 ih =>
  intro fr w0 w h he hw hp
  obtain ⟨j, k⟩ := p
  obtain ⟨hpo, hnb, hjk⟩ := hp (j, k) Ya
  have htr : ∀ {K' : World → Prop}, ((∀ u, K' u → K u) ∨ barB bs kk fs i = true) → ∀ u, (K' u ∨ fs.contains j = true) → (K u ∨ fs.contains j = true) := by
   intro K' h u hu
   cases hf : fs.contains j with
   | true => exact .inr rfl
   | false =>
    rw [hf] at hu
    exact .inl (h.resolve_right (by rw [Qry hpo hnb hjk hf]; decide) u (hu.resolve_right Yx))
  simp only [Nr, bF, Bool.or_eq_true, dm] at hpo
  rw [hnb] at hpo
  obtain ⟨_, hor⟩ := hpo
  obtain ⟨hk, hap⟩ := hor.resolve_left Ya
  subst hk
  obtain ⟨a, ha, hda, hg⟩ := h
  have both : ∀ u, DB P n l tail N bs kk fs K (r1 ++ (i, e) :: r2) (N9 fr a.dst u) w0 →
    Qmd P l fr w i n fun fr' w' => ∃ K', (K' w' ∧ Gs K' ∧ ((∀ u, K' u → K u) ∨ barB bs kk fs i = true)) ∧ ∃ b, l[i]? = some b ∧ (∃ v', fr' = N9 fr b.dst v') ∧ DB P n l tail N bs kk fs K' (r1 ++ r2) (N9 fr' a.dst u) w' := by
   intro u hu
   obtain ⟨b, hb, hdb, hs⟩ := ih _ _ _ hu he hw (fun p hp' => hp p (az _ hp'))
   obtain ⟨h1, h2, h3⟩ := Tu hap ha hb
   have hag : ∀ s ∈ F5 l b, N9 fr a.dst u s = fr s := Qb6 h1
   refine ⟨b, hb, hdb, (hs.frame hag).mono (fun ho => (ho.frame hag).mono ?_) ?_⟩
   ·rintro v w' ⟨K', e1, e2, e3, hk⟩
    refine ⟨K', ⟨e1, e2, e3⟩, b, hb, ⟨v, rfl⟩, ?_⟩
    rw [← Qdv h3]; exact hk
   rintro ⟨K', e1, e2, e3, hk⟩
   refine ⟨K', ⟨e1, e2, e3⟩, b, hb, ⟨_, rfl⟩, ?_⟩
   rw [← Qdv h3]; exact hk
  have fin : ∀ b, l[i]? = some b → ∀ s ∈ F5 l a, ∀ v', N9 fr b.dst v' s = fr s := by
   intro b hb s hs v'
   exact Qb6 (Tu hap ha hb).2.1 s hs
  unfold Ut at hg
  cases hgu : a.guard with
  | none =>
   rw [hgu] at hg
   obtain ⟨u, hev, hk⟩ := hg
   obtain ⟨b, hb, hdb, hs⟩ := both u hk
   refine ⟨b, hb, hdb, hs.mono (fun ho => ho.mono ?_) ?_⟩
   all_goals
    intros
    rename_i hh
    obtain ⟨K', ⟨e1, e2, e3⟩, b', hb', ⟨v', hv'⟩, hk'⟩ := hh
    refine ⟨K', e1, e2, e3, a, ha, hda, ?_⟩
    simp only [Ut, hgu]
    refine ⟨u, fun w2 hw2 => (hev w2 (htr e3 w2 hw2)).frame (l := l) fun s hs => ?_, hk'⟩
    rw [hv']; exact (fin b' hb' s hs v').symm
  | some g =>
   obtain ⟨jj, want⟩ := g
   rw [hgu] at hg
   obtain ⟨s, bb, hs1, hs2, hyes, hno⟩ := hg
   have hmem : s ∈ F5 l a := by simp [F5, hgu, hs1]
   by_cases hbw : bb = some want
   ·obtain ⟨u, hev, hk⟩ := hyes hbw
    obtain ⟨b, hb, hdb, hs⟩ := both u hk
    refine ⟨b, hb, hdb, hs.mono (fun ho => ho.mono ?_) ?_⟩
    all_goals
     intros
     rename_i hh
     obtain ⟨K', ⟨e1, e2, e3⟩, b', hb', ⟨v', hv'⟩, hk'⟩ := hh
     refine ⟨K', e1, e2, e3, a, ha, hda, ?_⟩
     simp only [Ut, hgu]
     refine ⟨s, bb, hs1, by rw [hv', fin b' hb' s hmem v']; exact hs2, fun _ => ⟨u, fun w2 hw2 => (hev w2 (htr e3 w2 hw2)).frame (l := l) fun s hs => ?_, hk'⟩, fun hne => absurd hbw hne⟩
     rw [hv']; exact (fin b' hb' s hs v').symm
   have hk := hno hbw
   obtain ⟨b, hb, hdb, hs⟩ := both _ hk
   refine ⟨b, hb, hdb, hs.mono (fun ho => ho.mono ?_) ?_⟩
   all_goals
    intros
    rename_i hh
    obtain ⟨K', ⟨e1, e2, e3⟩, b', hb', ⟨v', hv'⟩, hk'⟩ := hh
    refine ⟨K', e1, e2, e3, a, ha, hda, ?_⟩
    simp only [Ut, hgu]
    exact ⟨s, bb, hs1, by rw [hv', fin b' hb' s hmem v']; exact hs2, fun heq => absurd heq hbw, fun _ => hk'⟩
theorem db_run {fs : List Nat} {P : Program} {n : Nat} {l le : List Oper} {N : (Nat → Value) → World → Prop} {plan : List (Nat × Bool)} {k : Nat} (hll : le.length = l.length) (hp : Bq l le plan k = true) {rd : Option Nat} {ds : List Deferred} {Q : Exit → Act → World → Prop}
  (hQ : ∀ a' fr' w', Frm ds a' n fr' → N fr' w' → Q .normal a' w') :
  ∀ (σ done : List Nat) (K : World → Prop) (r : List (Nat × Bool)) (fr : Nat → Value) (w0 w : World) (a : Act), Gs K → K w → Nj .any le done σ → (∀ i ∈ done, Nv .any le i (· ∈ done)) → r.Sublist plan →
   (∀ p ∈ plan, p ∈ r ∨ p.1 ∈ done) → (∀ p ∈ r, p.1 ∉ done) → (∀ i ∈ done, i < k) → DB P n l (l.drop k) N (Qb2 le) k fs K r fr w0 → Ext w0 w → Frm ds a n fr → wpOpsIn (FR rd) 0 P l.toArray Q σ a w := by
 simp only [Bq, bF, bz, List.mem_range, List.any_eq_true] at hp
 obtain ⟨⟨⟨hpairs, hcov⟩, hlt⟩, htail⟩ := hp
 have htail' : ∀ j, k ≤ j → j < l.length → ∀ i, i < j → ((Qb2 le).getD j 0).testBit i = true := by
  intro j hj hjl i hi
  have := htail j hjl
  simp only [Bool.or_eq_true, bz, List.mem_range] at this
  rcases this with h | h
  ·have : j < k := bQ h
   omega
  exact h i hi
 have hpw := Pn hpairs
 intro σ
 induction σ with
 | nil =>
  intro done K r fr w0 w a hK hw hs hc hsub hcv hnd hdk hdw he ha
  cases r with
  | cons p r =>
   exfalso
   obtain ⟨i, e⟩ := p
   have : ∃ o, l[i]? = some o := by cases e <;> exact ⟨hdw.choose, hdw.choose_spec.1⟩
   obtain ⟨o, ho⟩ := this
   have hi : i < l.length := by
    rcases ay i l.length with h | h
    ·exact h
    rw [List.getElem?_eq_none h] at ho; cases ho
   exact hnd (i, e) Ya (hs i (by omega))
  | nil =>
   have hkl : l.length ≤ k := by
    rcases ay k l.length with h | h
    ·exact absurd (hdk k (hs k (by omega))) (by omega)
    exact h
   have := hdw w he rd ds a ha Q hQ
   rw [List.drop_eq_nil_of_le hkl] at this
   exact this
 | cons i σ ih =>
  intro done K r fr w0 w a hK hw hs hc hsub hcv hnd hdk hdw he ha
  cases r with
  | nil =>
   have hdone : ∀ i, i ∈ done ↔ i < k := by
    intro i
    refine ⟨hdk i, fun h => ?_⟩
    obtain ⟨p, hp1, hp2⟩ := hcov i h
    have := (hcv p hp1).resolve_left Ya
    rwa [dQ hp2] at this
   have hkl : k ≤ l.length := by
    rcases ay l.length k with h | h
    ·exfalso
     obtain ⟨h1, h2, _, _⟩ := hs
     exact h2 ((hdone i).2 (by omega))
    exact h
   have hσ := Qjk (fun j hj hjl => htail' j hj (by omega)) _ _ k (Nat.le_refl _) (by omega) hdone hc hs
   rw [hσ, hll]
   have hlen : l.length - k = (l.drop k).length := by simp
   rw [hlen, wpOpsIn_eq_wpListIn (l.drop k) k (by intro j; simp)]
   exact hdw w he rd ds a ha Q hQ
  | cons p0 r0 =>
   obtain ⟨h1, h2, h3, h4⟩ := hs
   have hbef : ∀ j, ((Qb2 le).getD i 0).testBit j = true → j ∈ done := Qkq (D := (· ∈ done)) hc i h1 h3
   have hik : i < k := by
    rcases ay i k with h | h
    ·exact h
    exfalso
    have hp0 : p0 ∈ plan := hsub.subset Ya
    have hb : p0.1 < k := bQ (hlt p0 hp0)
    exact hnd p0 Ya (hbef _ (htail' i h (by omega) p0.1 (by omega)))
   obtain ⟨q, hq1, hq2⟩ := hcov i hik
   obtain ⟨qi, e⟩ := q
   have hqi : qi = i := dQ hq2
   subst hqi
   have hqr : (qi, e) ∈ p0 :: r0 := (hcv _ hq1).resolve_right h2
   obtain ⟨r1, r2, hr⟩ := List.append_of_mem hqr
   rw [hr] at hdw hsub hnd hcv
   have hpwr := hpw.sublist hsub
   rw [List.pairwise_append] at hpwr
   obtain ⟨_, hpw2, hpw12⟩ := hpwr
   rw [List.pairwise_cons] at hpw2
   have hstep := DB.take hK (bs := Qb2 le) (fs := fs) r1 fr w0 w hdw he hw (fun p hp => ⟨hpw12 p hp _ Ya, by
    cases hb : ((Qb2 le).getD qi 0).testBit p.1 with
    | false => rfl
    | true => exact absurd (hbef _ hb) (hnd p (by simp [hp])), bQ (hlt p (hsub.subset (by simp [hp])))⟩)
   refine hstep.wpOps ha fun a' fr' w' hf ⟨K', e1, e2, _, hdw'⟩ => ?_
   have hne : ∀ p, Nr l (Qb2 le) p (qi, e) = true ∨ Nr l (Qb2 le) (qi, e) p = true → p.1 ≠ qi := by
    intro p h heq
    rcases h with h | h <;>
     ·simp only [Nr, heq, Nat.beq_refl, Bool.not_true, Bool.false_and] at h; cases h
   refine ih (qi :: done) K' (r1 ++ r2) fr' w' w' a' e2 e1 h4 ?_ ?_ ?_ ?_ ?_ hdw' (Ext.refl _) hf
   ·intro j hj
    rcases List.mem_cons.1 hj with rfl | hj
    ·exact fun o ho e he hb => az _ (h3 o ho e he hb)
    exact fun o ho e he hb => az _ (hc j hj o ho e he hb)
   ·exact (List.Sublist.append (List.Sublist.refl r1) (List.sublist_cons_self _ _)).trans hsub
   ·intro p hp
    rcases hcv p hp with h | h
    ·rcases List.mem_append.1 h with h | h
     ·exact .inl (by simp [h])
     rcases List.mem_cons.1 h with rfl | h
     ·exact .inr Ya
     exact .inl (by simp [h])
    exact .inr (by simp [h])
   ·intro p hp
    rcases List.mem_append.1 hp with h | h
    ·rw [List.mem_cons]
     rintro (h' | h')
     ·exact hne p (.inl (hpw12 p h _ Ya)) h'
     exact hnd p (by simp [h]) h'
    rw [List.mem_cons]
    rintro (h' | h')
    ·exact hne p (.inr (hpw2.1 p h)) h'
    exact hnd p (by simp [h]) h'
   intro j hj
   rcases List.mem_cons.1 hj with rfl | hj
   ·exact hik
   exact hdk j hj
theorem Qbp {P : Program} {n : Nat} {l le : List Oper} {N : (Nat → Value) → World → Prop} {fr : Nat → Value} {w : World} (plan : List (Nat × Bool)) (k : Nat) (fs : List Nat) (hll : le.length = l.length) (hp : Bq l le plan k = true)
  (h : DB P n l (l.drop k) N (Qb2 le) k fs (Ext w) plan fr w) : Qax P n l le N fr w :=
 ⟨hll, fun rd ds σ hs Q hQ a w1 he ha => db_run hll hp hQ σ [] (Ext w) plan fr w w1 a (Lc w) he hs Ya (List.Sublist.refl _) (fun p h => .inl h) Ya Ya h he ha⟩
section
variable {P : Program} {n : Nat} {l : List Oper} {tail : List Oper} {N : (Nat → Value) → World → Prop} {bs : List Nat} {kk : Nat} {fs : List Nat} {fr : Nat → Value} {w0 : World} {r : List (Nat × Bool)} {i : Nat} {op : Op} {ty : TypeId} {pos : String} {aft : Array Edge}
theorem Qhq {K : World → Prop} (h : ∀ w, Ext w0 w → RW P n l.toArray tail N fr w) : DB P n l tail N bs kk fs K [] fr w0 := h
theorem Qhp {d : Nat} {v : Value} (ho : l[i]? = some ⟨some d, op, ty, pos, aft, none⟩) (hd : dL d n = true) (hf : fs.contains i = false) (h : ∀ w, Ext w0 w → Vf P fr w op ty fun v' w' => v' = v ∧ Ext w w') (k : DB P n l tail N bs kk fs (Ext w0) r (upd fr d v) w0) :
  DB P n l tail N bs kk fs (Ext w0) ((i, false) :: r) fr w0 := ⟨_, ho, Nw hd, ⟨v, fun w hw => h w (hw.resolve_right (by rw [hf]; decide)), k⟩⟩
theorem Gu {d : Nat} {v : Value} (ho : l[i]? = some ⟨some d, op, ty, pos, aft, none⟩) (hd : dL d n = true) (hf : fs.contains i = false) (h : ∀ w, Ext w0 w → Jv P fr w op ty v) (k : DB P n l tail N bs kk fs (Ext w0) r (upd fr d v) w0) :
  DB P n l tail N bs kk fs (Ext w0) ((i, false) :: r) fr w0 := Qhp ho hd hf (fun w hw => (h w hw).opR.mono (by rintro _ _ ⟨rfl, rfl⟩; exact ⟨rfl, Ext.refl _⟩)) k
theorem db_f {d : Nat} {v : Value} (ho : l[i]? = some ⟨some d, op, ty, pos, aft, none⟩) (hd : dL d n = true) (h : ∀ w, Jv P fr w op ty v) (k : DB P n l tail N bs kk fs (Ext w0) r (upd fr d v) w0) :
  DB P n l tail N bs kk fs (Ext w0) ((i, false) :: r) fr w0 := ⟨_, ho, Nw hd, ⟨v, fun w _ => (h w).opR.mono (by rintro _ _ ⟨rfl, rfl⟩; exact ⟨rfl, Ext.refl _⟩), k⟩⟩
theorem db_n (hb : barB bs kk fs i = true) (ho : l[i]? = some ⟨none, op, ty, pos, aft, none⟩) (h : ∀ w, Ext w0 w → Vf P fr w op ty fun v w' => DB P n l tail N bs kk fs (Ext w') r fr w') :
  DB P n l tail N bs kk fs (Ext w0) ((i, true) :: r) fr w0 := ⟨_, ho, fun _ h => (by cases h), fun w e => (h w e).mono fun v w' hk => ⟨Ext w', Ext.refl _, Lc _, .inr hb, hk⟩⟩
end
end --m
section
set_option linter.unusedVariables false
section
variable {P : Program} {fr : Nat → Value} {w : World} {ty T E : TypeId} {x : Operand} {z : Option Value} {k kb : Nat} {α : Type} {enc : α → List Value} {v : Value} {l : List α} {m : Nat → Option Obj}
theorem Ru {lo hi : Option Operand} {i j : Int} (h : RdK m enc k v l) (hu : P.underlying T = some (.slice E)) (hi' : Ji P E = some (z, k, kb)) (hx : Ql fr x = v) (hlo : Qdc lo fr 0 i) (hhi : Qdc hi fr (l.length : Int) j) (h0 : 0 ≤ i) (h1 : i ≤ j) (h2 : j ≤ l.length) :
  Jv P fr w (.slice T x lo hi none) ty (Pi v i j k) := by
 obtain ⟨a, cap, rfl, hle, h4⟩ := h.is
 exact Qdn hu hi' hx hlo hhi h0 h1 (by omega)
theorem Qpn (l : List α) : ((l.drop (1 : Int).toNat).take ((l.length : Int).toNat - (1 : Int).toNat)) = l.drop 1 := by
 rw [Int.toNat_natCast, show (1 : Int).toNat = 1 from rfl]
 exact List.take_of_length_le Ya
end
end --m
end Go.Proofs.YtkmiemlpfkfiiaaDoor
