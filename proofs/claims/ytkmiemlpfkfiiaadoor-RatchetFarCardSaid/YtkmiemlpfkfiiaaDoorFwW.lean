/- The framework, part W: parts of slices whose elements take more cells than one. Conditions: none. -/
import Derived.Test.YtkmiemlpfkfiiaaDoorRa3
import Derived.Test.YtkmiemlpfkfiiaaDoorCuP
import Derived.Test.YtkmiemlpfkfiiaaDoorFwH
import Derived.Test.YtkmiemlpfkfiiaaDoorFwP
namespace Go.Proofs.YtkmiemlpfkfiiaaDoor
section
set_option linter.unusedVariables false
set_option linter.unusedSimpArgs false
attribute [local irreducible] D7 Ya Yq J9 Jz Ja Zu Wi Ak Ko Q7
end --m
section
set_option linter.unusedVariables false
set_option linter.unusedSimpArgs false
def barB (bs : List Nat) (kk : Nat) (fs : List Nat) (i : Nat) : Bool := (List.range kk).all fun j => Nat.beq j i || (bs.getD i 0).testBit j || (bs.getD j 0).testBit i || fs.contains j
theorem Ql6 {l : List Oper} {bs : List Nat} {kk i j : Nat} {fs : List Nat} {e k : Bool} (hpo : Dl l bs (j, k) (i, e) = true) (hnb : (bs.getD i 0).testBit j = false) (hj : j < kk) (hf : fs.contains j = false) : barB bs kk fs i = false := by
 simp only [Dl, Bool.and_eq_true, Bool.not_eq_true'] at hpo
 unfold barB
 rw [Bool.eq_false_iff]
 intro h
 have := List.all_eq_true.1 h j (by simpa using hj)
 simp only [hpo.1.1, hpo.1.2, hnb, hf, Bool.or_false, Bool.false_or] at this
 cases this
def DB (P : Program) (n : Nat) (l : List Oper) (tail : List Oper) (N : (Nat → Value) → World → Prop) (bs : List Nat) (kk : Nat) (fs : List Nat) : (World → Prop) → List (Nat × Bool) → (Nat → Value) → World → Prop
 | _, [], fr, w0 => ∀ w, Ext w0 w → RW P n l.toArray tail N fr w
 | K, (i, false) :: r, fr, w0 => ∃ o, l[i]? = some o ∧ (∀ d, o.dst = some d → d < n) ∧
   Vf l fr o (∃ v, (∀ w, (K w ∨ fs.contains i = true) → J8 P fr w o.op o.type fun v' w' => v' = v ∧ Ext w w') ∧ DB P n l tail N bs kk fs K r (Dy fr o.dst v) w0) (DB P n l tail N bs kk fs K r (Dy fr o.dst undef) w0)
 | K, (i, true) :: r, fr, w0 => ∃ o, l[i]? = some o ∧ (∀ d, o.dst = some d → d < n) ∧
   ∀ w, Ext w0 w → Vf l fr o (J8 P fr w o.op o.type fun v w' => ∃ K', K' w' ∧ Kz K' ∧ ((∀ u, K' u → K u) ∨ barB bs kk fs i = true) ∧ DB P n l tail N bs kk fs K' r (Dy fr o.dst v) w')
    (∃ K', K' w ∧ Kz K' ∧ ((∀ u, K' u → K u) ∨ barB bs kk fs i = true) ∧ DB P n l tail N bs kk fs K' r (Dy fr o.dst undef) w)
theorem DB.ext {P : Program} {n : Nat} {l tail : List Oper} {N : (Nat → Value) → World → Prop} {bs : List Nat} {kk : Nat} {fs : List Nat} {K : World → Prop} : ∀ {r : List (Nat × Bool)} {fr : Nat → Value} {w0 w : World}, DB P n l tail N bs kk fs K r fr w0 → Ext w0 w → DB P n l tail N bs kk fs K r fr w
 | [], _, _, _, h, e => fun w' e' => h w' (e.trans e')
 | (_, false) :: _, _, _, _, ⟨o, ho, hd, h⟩, e => ⟨o, ho, hd, h.mono (fun ⟨v, hv, hk⟩ => ⟨v, hv, hk.ext e⟩) (fun hk => hk.ext e)⟩
 | (_, true) :: _, _, _, _, ⟨o, ho, hd, h⟩, e => ⟨o, ho, hd, fun w' e' => h w' (e.trans e')⟩
theorem DB.take {P : Program} {n : Nat} {l tail : List Oper} {N : (Nat → Value) → World → Prop} {K : World → Prop} (hK : Kz K) {bs : List Nat} {kk : Nat} {fs : List Nat} {i : Nat} {e : Bool} {r2 : List (Nat × Bool)} :
  ∀ (r1 : List (Nat × Bool)) (fr : Nat → Value) (w0 w : World), DB P n l tail N bs kk fs K (r1 ++ (i, e) :: r2) fr w0 → Ext w0 w → K w → (∀ p ∈ r1, Dl l bs p (i, e) = true ∧ (bs.getD i 0).testBit p.1 = false ∧ p.1 < kk) →
   Qhq P l fr w i n fun fr' w' => ∃ K', K' w' ∧ Kz K' ∧ ((∀ u, K' u → K u) ∨ barB bs kk fs i = true) ∧ DB P n l tail N bs kk fs K' (r1 ++ r2) fr' w' := by
 intro r1
 induction r1 with
 | nil =>
  intro fr w0 w h he hw _
  cases e with
  | false =>
   obtain ⟨o, ho, hd, h⟩ := h
   exact ⟨o, ho, hd, h.mono (fun ⟨v, hv, hk⟩ => (hv w (.inl hw)).mono (by rintro _ _ ⟨rfl, e⟩; exact ⟨K, hK _ _ hw e, hK, .inl fun _ h => h, hk.ext (he.trans e)⟩)) (fun hk => ⟨K, hw, hK, .inl fun _ h => h, hk.ext he⟩)⟩
  | true =>
   obtain ⟨o, ho, hd, h⟩ := h
   exact ⟨o, ho, hd, h w he⟩
 | cons p r1 ih =>
  intro fr w0 w h he hw hp
  obtain ⟨j, k⟩ := p
  obtain ⟨hpo, hnb, hjk⟩ := hp (j, k) Xk
  have htr : ∀ {K' : World → Prop}, ((∀ u, K' u → K u) ∨ barB bs kk fs i = true) → ∀ u, (K' u ∨ fs.contains j = true) → (K u ∨ fs.contains j = true) := by
   intro K' h u hu
   cases hf : fs.contains j with
   | true => exact .inr rfl
   | false =>
    rw [hf] at hu
    exact .inl (h.resolve_right (by rw [Ql6 hpo hnb hjk hf]; decide) u (hu.resolve_right Yh))
  simp only [Dl, Bool.and_eq_true, Bool.or_eq_true, Bool.not_eq_true'] at hpo
  rw [hnb] at hpo
  obtain ⟨_, hor⟩ := hpo
  obtain ⟨hk, hap⟩ := hor.resolve_left Xk
  subst hk
  obtain ⟨a, ha, hda, hg⟩ := h
  have both : ∀ u, DB P n l tail N bs kk fs K (r1 ++ (i, e) :: r2) (Dy fr a.dst u) w0 →
    Qhq P l fr w i n fun fr' w' => ∃ K', (K' w' ∧ Kz K' ∧ ((∀ u, K' u → K u) ∨ barB bs kk fs i = true)) ∧ ∃ b, l[i]? = some b ∧ (∃ v', fr' = Dy fr b.dst v') ∧ DB P n l tail N bs kk fs K' (r1 ++ r2) (Dy fr' a.dst u) w' := by
   intro u hu
   obtain ⟨b, hb, hdb, hs⟩ := ih _ _ _ hu he hw (fun p hp' => hp p (List.mem_cons_of_mem _ hp'))
   obtain ⟨h1, h2, h3⟩ := Hw hap ha hb
   have hag : ∀ s ∈ V9 l b, Dy fr a.dst u s = fr s := Py h1
   refine ⟨b, hb, hdb, (hs.frame hag).mono (fun ho => (ho.frame hag).mono ?_) ?_⟩
   ·rintro v w' ⟨K', e1, e2, e3, hk⟩
    refine ⟨K', ⟨e1, e2, e3⟩, b, hb, ⟨v, rfl⟩, ?_⟩
    rw [← Qap h3]; exact hk
   rintro ⟨K', e1, e2, e3, hk⟩
   refine ⟨K', ⟨e1, e2, e3⟩, b, hb, ⟨_, rfl⟩, ?_⟩
   rw [← Qap h3]; exact hk
  have fin : ∀ b, l[i]? = some b → ∀ s ∈ V9 l a, ∀ v', Dy fr b.dst v' s = fr s := by
   intro b hb s hs v'
   exact Py (Hw hap ha hb).2.1 s hs
  unfold Vf at hg
  cases hgu : a.guard with
  | none =>
   rw [hgu] at hg
   obtain ⟨u, hev, hk⟩ := hg
   obtain ⟨b, hb, hdb, hs⟩ := both u hk
   refine ⟨b, hb, hdb, hs.mono (fun ho => ho.mono ?_) ?_⟩
   all_goals
    intros
    rename_i hh
    obtain ⟨K', ⟨e1, e2, e3⟩, b', hb', ⟨v', hv'⟩, hk'⟩ := hh
    refine ⟨K', e1, e2, e3, a, ha, hda, ?_⟩
    simp only [Vf, hgu]
    refine ⟨u, fun w2 hw2 => (hev w2 (htr e3 w2 hw2)).frame (l := l) fun s hs => ?_, hk'⟩
    rw [hv']; exact (fin b' hb' s hs v').symm
  | some g =>
   obtain ⟨jj, want⟩ := g
   rw [hgu] at hg
   obtain ⟨s, bb, hs1, hs2, hyes, hno⟩ := hg
   have hmem : s ∈ V9 l a := by simp [V9, hgu, hs1]
   by_cases hbw : bb = some want
   ·obtain ⟨u, hev, hk⟩ := hyes hbw
    obtain ⟨b, hb, hdb, hs⟩ := both u hk
    refine ⟨b, hb, hdb, hs.mono (fun ho => ho.mono ?_) ?_⟩
    all_goals
     intros
     rename_i hh
     obtain ⟨K', ⟨e1, e2, e3⟩, b', hb', ⟨v', hv'⟩, hk'⟩ := hh
     refine ⟨K', e1, e2, e3, a, ha, hda, ?_⟩
     simp only [Vf, hgu]
     refine ⟨s, bb, hs1, by rw [hv', fin b' hb' s hmem v']; exact hs2, fun _ => ⟨u, fun w2 hw2 => (hev w2 (htr e3 w2 hw2)).frame (l := l) fun s hs => ?_, hk'⟩, fun hne => absurd hbw hne⟩
     rw [hv']; exact (fin b' hb' s hs v').symm
   have hk := hno hbw
   obtain ⟨b, hb, hdb, hs⟩ := both _ hk
   refine ⟨b, hb, hdb, hs.mono (fun ho => ho.mono ?_) ?_⟩
   all_goals
    intros
    rename_i hh
    obtain ⟨K', ⟨e1, e2, e3⟩, b', hb', ⟨v', hv'⟩, hk'⟩ := hh
    refine ⟨K', e1, e2, e3, a, ha, hda, ?_⟩
    simp only [Vf, hgu]
    exact ⟨s, bb, hs1, by rw [hv', fin b' hb' s hmem v']; exact hs2, fun heq => absurd heq hbw, fun _ => hk'⟩
theorem db_run {fs : List Nat} {P : Program} {n : Nat} {l le : List Oper} {N : (Nat → Value) → World → Prop} {plan : List (Nat × Bool)} {k : Nat} (hll : le.length = l.length) (hp : U0 l le plan k = true) {rd : Option Nat} {ds : List Deferred} {Q : Exit → Act → World → Prop}
  (hQ : ∀ a' fr' w', Frm ds a' n fr' → N fr' w' → Q .normal a' w') :
  ∀ (σ done : List Nat) (K : World → Prop) (r : List (Nat × Bool)) (fr : Nat → Value) (w0 w : World) (a : Act), Kz K → K w → Dh .any le done σ → (∀ i ∈ done, Dv .any le i (· ∈ done)) → r.Sublist plan →
   (∀ p ∈ plan, p ∈ r ∨ p.1 ∈ done) → (∀ p ∈ r, p.1 ∉ done) → (∀ i ∈ done, i < k) → DB P n l (l.drop k) N (Pq le) k fs K r fr w0 → Ext w0 w → Frm ds a n fr → wpOpsIn (FR rd) 0 P l.toArray Q σ a w := by
 simp only [U0, Bool.and_eq_true, List.all_eq_true, List.mem_range, List.any_eq_true] at hp
 obtain ⟨⟨⟨hpairs, hcov⟩, hlt⟩, htail⟩ := hp
 have htail' : ∀ j, k ≤ j → j < l.length → ∀ i, i < j → ((Pq le).getD j 0).testBit i = true := by
  intro j hj hjl i hi
  have := htail j hjl
  simp only [Bool.or_eq_true, List.all_eq_true, List.mem_range] at this
  rcases this with h | h
  ·have : j < k := Nat.le_of_ble_eq_true h
   omega
  exact h i hi
 have hpw := Cb hpairs
 intro σ
 induction σ with
 | nil =>
  intro done K r fr w0 w a hK hw hs hc hsub hcv hnd hdk hdw he ha
  cases r with
  | cons p r =>
   exfalso
   obtain ⟨i, e⟩ := p
   have : ∃ o, l[i]? = some o := by cases e <;> exact ⟨hdw.choose, hdw.choose_spec.1⟩
   obtain ⟨o, ho⟩ := this
   have hi : i < l.length := by
    rcases Nat.lt_or_ge i l.length with h | h
    ·exact h
    rw [List.getElem?_eq_none h] at ho; cases ho
   exact hnd (i, e) Xk (hs i (by omega))
  | nil =>
   have hkl : l.length ≤ k := by
    rcases Nat.lt_or_ge k l.length with h | h
    ·exact absurd (hdk k (hs k (by omega))) (by omega)
    exact h
   have := hdw w he rd ds a ha Q hQ
   rw [List.drop_eq_nil_of_le hkl] at this
   exact this
 | cons i σ ih =>
  intro done K r fr w0 w a hK hw hs hc hsub hcv hnd hdk hdw he ha
  cases r with
  | nil =>
   have hdone : ∀ i, i ∈ done ↔ i < k := by
    intro i
    refine ⟨hdk i, fun h => ?_⟩
    obtain ⟨p, hp1, hp2⟩ := hcov i h
    have := (hcv p hp1).resolve_left Xk
    rwa [Nat.eq_of_beq_eq_true hp2] at this
   have hkl : k ≤ l.length := by
    rcases Nat.lt_or_ge l.length k with h | h
    ·exfalso
     obtain ⟨h1, h2, _, _⟩ := hs
     exact h2 ((hdone i).2 (by omega))
    exact h
   have hσ := Qfa (fun j hj hjl => htail' j hj (by omega)) _ _ k (Nat.le_refl _) (by omega) hdone hc hs
   rw [hσ, hll]
   have hlen : l.length - k = (l.drop k).length := by simp
   rw [hlen, wpOpsIn_eq_wpListIn (l.drop k) k (by intro j; simp)]
   exact hdw w he rd ds a ha Q hQ
  | cons p0 r0 =>
   obtain ⟨h1, h2, h3, h4⟩ := hs
   have hbef : ∀ j, ((Pq le).getD i 0).testBit j = true → j ∈ done := Qge (D := (· ∈ done)) hc i h1 h3
   have hik : i < k := by
    rcases Nat.lt_or_ge i k with h | h
    ·exact h
    exfalso
    have hp0 : p0 ∈ plan := hsub.subset Xk
    have hb : p0.1 < k := Nat.le_of_ble_eq_true (hlt p0 hp0)
    exact hnd p0 Xk (hbef _ (htail' i h (by omega) p0.1 (by omega)))
   obtain ⟨q, hq1, hq2⟩ := hcov i hik
   obtain ⟨qi, e⟩ := q
   have hqi : qi = i := Nat.eq_of_beq_eq_true hq2
   subst hqi
   have hqr : (qi, e) ∈ p0 :: r0 := (hcv _ hq1).resolve_right h2
   obtain ⟨r1, r2, hr⟩ := List.append_of_mem hqr
   rw [hr] at hdw hsub hnd hcv
   have hpwr := hpw.sublist hsub
   rw [List.pairwise_append] at hpwr
   obtain ⟨_, hpw2, hpw12⟩ := hpwr
   rw [List.pairwise_cons] at hpw2
   have hstep := DB.take hK (bs := Pq le) (fs := fs) r1 fr w0 w hdw he hw (fun p hp => ⟨hpw12 p hp _ Xk, by
    cases hb : ((Pq le).getD qi 0).testBit p.1 with
    | false => rfl
    | true => exact absurd (hbef _ hb) (hnd p (by simp [hp])), Nat.le_of_ble_eq_true (hlt p (hsub.subset (by simp [hp])))⟩)
   refine hstep.wpOps ha fun a' fr' w' hf ⟨K', e1, e2, _, hdw'⟩ => ?_
   have hne : ∀ p, Dl l (Pq le) p (qi, e) = true ∨ Dl l (Pq le) (qi, e) p = true → p.1 ≠ qi := by
    intro p h heq
    rcases h with h | h <;>
     ·simp only [Dl, heq, Nat.beq_refl, Bool.not_true, Bool.false_and] at h; cases h
   refine ih (qi :: done) K' (r1 ++ r2) fr' w' w' a' e2 e1 h4 ?_ ?_ ?_ ?_ ?_ hdw' (Ext.refl _) hf
   ·intro j hj
    rcases List.mem_cons.1 hj with rfl | hj
    ·exact fun o ho e he hb => List.mem_cons_of_mem _ (h3 o ho e he hb)
    exact fun o ho e he hb => List.mem_cons_of_mem _ (hc j hj o ho e he hb)
   ·exact (List.Sublist.append (List.Sublist.refl r1) (List.sublist_cons_self _ _)).trans hsub
   ·intro p hp
    rcases hcv p hp with h | h
    ·rcases List.mem_append.1 h with h | h
     ·exact .inl (by simp [h])
     rcases List.mem_cons.1 h with rfl | h
     ·exact .inr Xk
     exact .inl (by simp [h])
    exact .inr (by simp [h])
   ·intro p hp
    rcases List.mem_append.1 hp with h | h
    ·rw [List.mem_cons]
     rintro (h' | h')
     ·exact hne p (.inl (hpw12 p h _ Xk)) h'
     exact hnd p (by simp [h]) h'
    rw [List.mem_cons]
    rintro (h' | h')
    ·exact hne p (.inr (hpw2.1 p h)) h'
    exact hnd p (by simp [h]) h'
   intro j hj
   rcases List.mem_cons.1 hj with rfl | hj
   ·exact hik
   exact hdk j hj
theorem Qjt {P : Program} {n : Nat} {l le : List Oper} {N : (Nat → Value) → World → Prop} {fr : Nat → Value} {w : World} (plan : List (Nat × Bool)) (k : Nat) (fs : List Nat) (hll : le.length = l.length) (hp : U0 l le plan k = true)
  (h : DB P n l (l.drop k) N (Pq le) k fs (Ext w) plan fr w) : L8 P n l le N fr w :=
 ⟨hll, fun rd ds σ hs Q hQ a w1 he ha => db_run hll hp hQ σ [] (Ext w) plan fr w w1 a (Ef w) he hs Xk (List.Sublist.refl _) (fun p h => .inl h) Xk Xk h he ha⟩
section
variable {P : Program} {n : Nat} {l : List Oper} {tail : List Oper} {N : (Nat → Value) → World → Prop} {bs : List Nat} {kk : Nat} {fs : List Nat} {fr : Nat → Value} {w0 : World} {r : List (Nat × Bool)} {i : Nat} {op : Op} {ty : TypeId} {pos : String} {aft : Array Edge}
theorem db_nil {K : World → Prop} (h : ∀ w, Ext w0 w → RW P n l.toArray tail N fr w) : DB P n l tail N bs kk fs K [] fr w0 := h
theorem db_x {d : Nat} {v : Value} (ho : l[i]? = some ⟨some d, op, ty, pos, aft, none⟩) (hd : Nat.blt d n = true) (hf : fs.contains i = false) (h : ∀ w, Ext w0 w → J8 P fr w op ty fun v' w' => v' = v ∧ Ext w w') (k : DB P n l tail N bs kk fs (Ext w0) r (upd fr d v) w0) :
  DB P n l tail N bs kk fs (Ext w0) ((i, false) :: r) fr w0 := ⟨_, ho, Aw hd, ⟨v, fun w hw => h w (hw.resolve_right (by rw [hf]; decide)), k⟩⟩
theorem Az {d : Nat} {v : Value} (ho : l[i]? = some ⟨some d, op, ty, pos, aft, none⟩) (hd : Nat.blt d n = true) (hf : fs.contains i = false) (h : ∀ w, Ext w0 w → Yt P fr w op ty v) (k : DB P n l tail N bs kk fs (Ext w0) r (upd fr d v) w0) :
  DB P n l tail N bs kk fs (Ext w0) ((i, false) :: r) fr w0 := db_x ho hd hf (fun w hw => (h w hw).opR.mono (by rintro _ _ ⟨rfl, rfl⟩; exact ⟨rfl, Ext.refl _⟩)) k
theorem db_f {d : Nat} {v : Value} (ho : l[i]? = some ⟨some d, op, ty, pos, aft, none⟩) (hd : Nat.blt d n = true) (h : ∀ w, Yt P fr w op ty v) (k : DB P n l tail N bs kk fs (Ext w0) r (upd fr d v) w0) :
  DB P n l tail N bs kk fs (Ext w0) ((i, false) :: r) fr w0 := ⟨_, ho, Aw hd, ⟨v, fun w _ => (h w).opR.mono (by rintro _ _ ⟨rfl, rfl⟩; exact ⟨rfl, Ext.refl _⟩), k⟩⟩
theorem db_n (hb : barB bs kk fs i = true) (ho : l[i]? = some ⟨none, op, ty, pos, aft, none⟩) (h : ∀ w, Ext w0 w → J8 P fr w op ty fun v w' => DB P n l tail N bs kk fs (Ext w') r fr w') :
  DB P n l tail N bs kk fs (Ext w0) ((i, true) :: r) fr w0 := ⟨_, ho, fun _ h => (by cases h), fun w e => (h w e).mono fun v w' hk => ⟨Ext w', Ext.refl _, Ef _, .inr hb, hk⟩⟩
end
end --m
section
set_option linter.unusedVariables false
section
variable {P : Program} {fr : Nat → Value} {w : World} {ty T E : TypeId} {x : Operand} {z : Option Value} {k kb : Nat} {α : Type} {enc : α → List Value} {v : Value} {l : List α} {m : Nat → Option Obj}
theorem Qd6 {lo hi : Option Operand} {i j : Int} (h : RdK m enc k v l) (hu : P.underlying T = some (.slice E)) (hi' : X4 P E = some (z, k, kb)) (hx : Qg fr x = v) (hlo : Tn lo fr 0 i) (hhi : Tn hi fr (l.length : Int) j) (h0 : 0 ≤ i) (h1 : i ≤ j) (h2 : j ≤ l.length) :
  Yt P fr w (.slice T x lo hi none) ty (Ld v i j k) := by
 obtain ⟨a, cap, rfl, hle, h4⟩ := h.is
 exact Qab hu hi' hx hlo hhi h0 h1 (by omega)
end
end --m
end Go.Proofs.YtkmiemlpfkfiiaaDoor
