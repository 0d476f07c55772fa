/- The framework, part R: new variables of one region, in whatever order they come. Conditions: none. -/
import Derived.Test.YtfbnhoolkajebaaFwH
import Derived.Test.YtfbnhoolkajebaaFwQ
namespace Go.Proofs.Ytfbnhoolkajebaa
section
set_option linter.unusedVariables false
set_option linter.unusedSimpArgs false
/-- Everything else of the plan is ordered beside i. -/
def barB (bs : List Nat) (kk i : Nat) : Bool := (List.range kk).all fun j => Nat.beq j i || (bs.getD i 0).testBit j || (bs.getD j 0).testBit i
theorem barB_false {l : List Oper} {bs : List Nat} {kk i j : Nat} {e k : Bool} (hpo : pairOk l bs (j, k) (i, e) = true) (hnb : (bs.getD i 0).testBit j = false) (hj : j < kk) : barB bs kk i = false := by
  simp only [pairOk, Bool.and_eq_true, Bool.not_eq_true'] at hpo
  unfold barB
  rw [Bool.eq_false_iff]
  intro h
  have := List.all_eq_true.1 h j (by simpa using hj)
  simp only [hpo.1.1, hpo.1.2, hnb, Bool.or_false, Bool.false_or] at this
  cases this
def DB (P : Program) (n : Nat) (l : List Oper) (tail : List Oper) (N : (Nat → Value) → World → Prop) (bs : List Nat) (kk : Nat) : (World → Prop) → List (Nat × Bool) → (Nat → Value) → World → Prop
  | _, [], fr, w0 => ∀ w, Ext w0 w → RW P n l.toArray tail N fr w
  | K, (i, false) :: r, fr, w0 => ∃ o, l[i]? = some o ∧ (∀ d, o.dst = some d → d < n) ∧
      Guarded l fr o (∃ v, (∀ w, K w → OpR P fr w o.op o.type fun v' w' => v' = v ∧ Ext w w') ∧ DB P n l tail N bs kk K r (updO fr o.dst v) w0) (DB P n l tail N bs kk K r (updO fr o.dst undef) w0)
  | K, (i, true) :: r, fr, w0 => ∃ o, l[i]? = some o ∧ (∀ d, o.dst = some d → d < n) ∧
      ∀ w, Ext w0 w → Guarded l fr o (OpR P fr w o.op o.type fun v w' => ∃ K', K' w' ∧ ExtClosed K' ∧ ((∀ u, K' u → K u) ∨ barB bs kk i = true) ∧ DB P n l tail N bs kk K' r (updO fr o.dst v) w')
        (∃ K', K' w ∧ ExtClosed K' ∧ ((∀ u, K' u → K u) ∨ barB bs kk i = true) ∧ DB P n l tail N bs kk K' r (updO fr o.dst undef) w)
theorem DB.ext {P : Program} {n : Nat} {l tail : List Oper} {N : (Nat → Value) → World → Prop} {bs : List Nat} {kk : Nat} {K : World → Prop} : ∀ {r : List (Nat × Bool)} {fr : Nat → Value} {w0 w : World}, DB P n l tail N bs kk K r fr w0 → Ext w0 w → DB P n l tail N bs kk K r fr w
  | [], _, _, _, h, e => fun w' e' => h w' (e.trans e')
  | (_, false) :: _, _, _, _, ⟨o, ho, hd, h⟩, e => ⟨o, ho, hd, h.mono (fun ⟨v, hv, hk⟩ => ⟨v, hv, hk.ext e⟩) (fun hk => hk.ext e)⟩
  | (_, true) :: _, _, _, _, ⟨o, ho, hd, h⟩, e => ⟨o, ho, hd, fun w' e' => h w' (e.trans e')⟩

theorem DB.take {P : Program} {n : Nat} {l tail : List Oper} {N : (Nat → Value) → World → Prop} {K : World → Prop} (hK : ExtClosed K) {bs : List Nat} {kk : Nat} {i : Nat} {e : Bool} {r2 : List (Nat × Bool)} :
    ∀ (r1 : List (Nat × Bool)) (fr : Nat → Value) (w0 w : World), DB P n l tail N bs kk K (r1 ++ (i, e) :: r2) fr w0 → Ext w0 w → K w → (∀ p ∈ r1, pairOk l bs p (i, e) = true ∧ (bs.getD i 0).testBit p.1 = false ∧ p.1 < kk) →
      StepR P l fr w i n fun fr' w' => ∃ K', K' w' ∧ ExtClosed K' ∧ ((∀ u, K' u → K u) ∨ barB bs kk i = true) ∧ DB P n l tail N bs kk K' (r1 ++ r2) fr' w' := by
  intro r1
  induction r1 with
  | nil =>
    intro fr w0 w h he hw _
    cases e with
    | false =>
      obtain ⟨o, ho, hd, h⟩ := h
      exact ⟨o, ho, hd, h.mono (fun ⟨v, hv, hk⟩ => (hv w hw).mono (by rintro _ _ ⟨rfl, e⟩; exact ⟨K, hK _ _ hw e, hK, .inl fun _ h => h, hk.ext (he.trans e)⟩)) (fun hk => ⟨K, hw, hK, .inl fun _ h => h, hk.ext he⟩)⟩
    | true =>
      obtain ⟨o, ho, hd, h⟩ := h
      exact ⟨o, ho, hd, h w he⟩
  | cons p r1 ih =>
    intro fr w0 w h he hw hp
    obtain ⟨j, k⟩ := p
    obtain ⟨hpo, hnb, hjk⟩ := hp (j, k) (by simp)
    have hbar : barB bs kk i = false := barB_false hpo hnb hjk
    have hsub : ∀ {K' : World → Prop}, ((∀ u, K' u → K u) ∨ barB bs kk i = true) → ∀ u, K' u → K u := fun h => h.resolve_right (by rw [hbar]; decide)
    simp only [pairOk, Bool.and_eq_true, Bool.or_eq_true, Bool.not_eq_true'] at hpo
    rw [hnb] at hpo
    obtain ⟨_, hor⟩ := hpo
    obtain ⟨hk, hap⟩ := hor.resolve_left (by simp)
    subst hk
    obtain ⟨a, ha, hda, hg⟩ := h
    -- both ways of the guard of j
    have both : ∀ u, DB P n l tail N bs kk K (r1 ++ (i, e) :: r2) (updO fr a.dst u) w0 →
        StepR P l fr w i n fun fr' w' => ∃ K', (K' w' ∧ ExtClosed K' ∧ (∀ u, K' u → K u)) ∧ ∃ b, l[i]? = some b ∧ (∃ v', fr' = updO fr b.dst v') ∧ DB P n l tail N bs kk K' (r1 ++ r2) (updO fr' a.dst u) w' := by
      intro u hu
      obtain ⟨b, hb, hdb, hs⟩ := ih _ _ _ hu he hw (fun p hp' => hp p (List.mem_cons_of_mem _ hp'))
      obtain ⟨h1, h2, h3⟩ := apartOf_spec hap ha hb
      have hag : ∀ s ∈ namesOf l b, updO fr a.dst u s = fr s := updO_agree h1
      refine ⟨b, hb, hdb, (hs.frame hag).mono (fun ho => (ho.frame hag).mono ?_) ?_⟩
      · rintro v w' ⟨K', e1, e2, e3, hk⟩
        refine ⟨K', ⟨e1, e2, hsub e3⟩, b, hb, ⟨v, rfl⟩, ?_⟩
        rw [← updO_comm h3]; exact hk
      · rintro ⟨K', e1, e2, e3, hk⟩
        refine ⟨K', ⟨e1, e2, hsub e3⟩, b, hb, ⟨_, rfl⟩, ?_⟩
        rw [← updO_comm h3]; exact hk
    have fin : ∀ b, l[i]? = some b → ∀ s ∈ namesOf l a, ∀ v', updO fr b.dst v' s = fr s := by
      intro b hb s hs v'
      exact updO_agree (apartOf_spec hap ha hb).2.1 s hs
    unfold Guarded at hg
    cases hgu : a.guard with
    | none =>
      rw [hgu] at hg
      obtain ⟨u, hev, hk⟩ := hg
      obtain ⟨b, hb, hdb, hs⟩ := both u hk
      refine ⟨b, hb, hdb, hs.mono (fun ho => ho.mono ?_) ?_⟩
      all_goals
        intros
        rename_i hh
        obtain ⟨K', ⟨e1, e2, e3⟩, b', hb', ⟨v', hv'⟩, hk'⟩ := hh
        refine ⟨K', e1, e2, .inl e3, a, ha, hda, ?_⟩
        simp only [Guarded, hgu]
        refine ⟨u, fun w2 hw2 => (hev w2 (e3 w2 hw2)).frame (l := l) fun s hs => ?_, hk'⟩
        rw [hv']; exact (fin b' hb' s hs v').symm
    | some g =>
      obtain ⟨jj, want⟩ := g
      rw [hgu] at hg
      obtain ⟨s, bb, hs1, hs2, hyes, hno⟩ := hg
      have hmem : s ∈ namesOf l a := by simp [namesOf, hgu, hs1]
      by_cases hbw : bb = some want
      · obtain ⟨u, hev, hk⟩ := hyes hbw
        obtain ⟨b, hb, hdb, hs⟩ := both u hk
        refine ⟨b, hb, hdb, hs.mono (fun ho => ho.mono ?_) ?_⟩
        all_goals
          intros
          rename_i hh
          obtain ⟨K', ⟨e1, e2, e3⟩, b', hb', ⟨v', hv'⟩, hk'⟩ := hh
          refine ⟨K', e1, e2, .inl e3, a, ha, hda, ?_⟩
          simp only [Guarded, hgu]
          refine ⟨s, bb, hs1, by rw [hv', fin b' hb' s hmem v']; exact hs2, fun _ => ⟨u, fun w2 hw2 => (hev w2 (e3 w2 hw2)).frame (l := l) fun s hs => ?_, hk'⟩, fun hne => absurd hbw hne⟩
          rw [hv']; exact (fin b' hb' s hs v').symm
      · have hk := hno hbw
        obtain ⟨b, hb, hdb, hs⟩ := both _ hk
        refine ⟨b, hb, hdb, hs.mono (fun ho => ho.mono ?_) ?_⟩
        all_goals
          intros
          rename_i hh
          obtain ⟨K', ⟨e1, e2, e3⟩, b', hb', ⟨v', hv'⟩, hk'⟩ := hh
          refine ⟨K', e1, e2, .inl e3, a, ha, hda, ?_⟩
          simp only [Guarded, hgu]
          exact ⟨s, bb, hs1, by rw [hv', fin b' hb' s hmem v']; exact hs2, fun heq => absurd heq hbw, fun _ => hk'⟩

section
variable {P : Program} {n : Nat} {l : List Oper} {tail : List Oper} {N : (Nat → Value) → World → Prop} {bs : List Nat} {kk : Nat} {fr : Nat → Value} {w0 : World} {r : List (Nat × Bool)} {i : Nat} {op : Op} {ty : TypeId} {pos : String} {aft : Array Edge}
end
end --m
section
set_option linter.unusedVariables false
section
variable {P : Program} {fr : Nat → Value} {w : World} {ty T E : TypeId} {x : Operand} {z : Option Value} {k kb : Nat} {α : Type} {enc : α → List Value} {v : Value} {l : List α} {m : Nat → Option Obj}
theorem ev_slice_rk {lo hi : Option Operand} {i j : Int} (h : RdK m enc k v l) (hu : P.underlying T = some (.slice E)) (hi' : tinf P E = some (z, k, kb)) (hx : evalF fr x = v) (hlo : optI lo fr 0 i) (hhi : optI hi fr (l.length : Int) j) (h0 : 0 ≤ i) (h1 : i ≤ j) (h2 : j ≤ l.length) :
    EvQ P fr w (.slice T x lo hi none) ty (subvK v i j k) := by
  obtain ⟨a, cap, rfl, hle, h4⟩ := h.is
  exact ev_slice_sl hu hi' hx hlo hhi h0 h1 (by omega)
theorem drop_one (l : List α) : ((l.drop (1 : Int).toNat).take ((l.length : Int).toNat - (1 : Int).toNat)) = l.drop 1 := by
  rw [Int.toNat_natCast, show (1 : Int).toNat = 1 from rfl]
  exact List.take_of_length_le (by simp)
end
end --m
section
set_option linter.unusedSimpArgs false
set_option linter.unusedVariables false

section
variable {P : Program} {n : Nat} {l le : List Oper} {tail : List Oper} {N : (Nat → Value) → World → Prop} {r : List (Nat × Bool)} {R : Rest} {D : Nat → Nat} {T : Nat → TypeId} {Z : Nat → Value}
end
end --m
end Go.Proofs.Ytfbnhoolkajebaa
