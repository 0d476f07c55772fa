/- The ratchet: what is deciphered (the document). Conditions: none beyond those that each theorem states. -/
import Derived.Test.YtkmiemlpfkfiiaaDoorFwH
import Derived.Test.YtkmiemlpfkfiiaaDoorFwP
import Derived.Test.YtkmiemlpfkfiiaaDoorRb1
namespace Go.Proofs.YtkmiemlpfkfiiaaDoor
section
set_option linter.unusedVariables false
set_option linter.unusedSimpArgs false
def barB (bs : List Nat) (kk : Nat) (fs : List Nat) (i : Nat) : Bool := (List.range kk).all fun j => Nat.beq j i || (bs.getD i 0).testBit j || (bs.getD j 0).testBit i || fs.contains j
theorem Qmi {l : List Oper} {bs : List Nat} {kk i j : Nat} {fs : List Nat} {e k : Bool} (hpo : Nj l bs (j, k) (i, e) = true) (hnb : (bs.getD i 0).testBit j = false) (hj : j < kk) (hf : fs.contains j = false) : barB bs kk fs i = false := by
 simp only [Nj, Bool.and_eq_true, Bool.not_eq_true'] at hpo
 unfold barB
 rw [Bool.eq_false_iff]
 intro h
 have := List.all_eq_true.1 h j (by simpa using hj)
 simp only [hpo.1.1, hpo.1.2, hnb, hf, Bool.or_false, Bool.false_or] at this
 cases this
def DB (P : Program) (n : Nat) (l : List Oper) (tail : List Oper) (N : (Nat → Value) → World → Prop) (bs : List Nat) (kk : Nat) (fs : List Nat) : (World → Prop) → List (Nat × Bool) → (Nat → Value) → World → Prop
 | _, [], fr, w0 => ∀ w, Ext w0 w → RW P n l.toArray tail N fr w
 | K, (i, false) :: r, fr, w0 => ∃ o, l[i]? = some o ∧ (∀ d, o.dst = some d → d < n) ∧
   Gg l fr o (∃ v, (∀ w, (K w ∨ fs.contains i = true) → Yz P fr w o.op o.type fun v' w' => v' = v ∧ Ext w w') ∧ DB P n l tail N bs kk fs K r (Bq fr o.dst v) w0) (DB P n l tail N bs kk fs K r (Bq fr o.dst undef) w0)
 | K, (i, true) :: r, fr, w0 => ∃ o, l[i]? = some o ∧ (∀ d, o.dst = some d → d < n) ∧
   ∀ w, Ext w0 w → Gg l fr o (Yz P fr w o.op o.type fun v w' => ∃ K', K' w' ∧ Vz K' ∧ ((∀ u, K' u → K u) ∨ barB bs kk fs i = true) ∧ DB P n l tail N bs kk fs K' r (Bq fr o.dst v) w')
    (∃ K', K' w ∧ Vz K' ∧ ((∀ u, K' u → K u) ∨ barB bs kk fs i = true) ∧ DB P n l tail N bs kk fs K' r (Bq fr o.dst undef) w)
theorem DB.ext {P : Program} {n : Nat} {l tail : List Oper} {N : (Nat → Value) → World → Prop} {bs : List Nat} {kk : Nat} {fs : List Nat} {K : World → Prop} : ∀ {r : List (Nat × Bool)} {fr : Nat → Value} {w0 w : World}, DB P n l tail N bs kk fs K r fr w0 → Ext w0 w → DB P n l tail N bs kk fs K r fr w
 | [], _, _, _, h, e => fun w' e' => h w' (e.trans e')
 | (_, false) :: _, _, _, _, ⟨o, ho, hd, h⟩, e => ⟨o, ho, hd, h.mono (fun ⟨v, hv, hk⟩ => ⟨v, hv, hk.ext e⟩) (fun hk => hk.ext e)⟩
 | (_, true) :: _, _, _, _, ⟨o, ho, hd, h⟩, e => ⟨o, ho, hd, fun w' e' => h w' (e.trans e')⟩
theorem DB.take {P : Program} {n : Nat} {l tail : List Oper} {N : (Nat → Value) → World → Prop} {K : World → Prop} (hK : Vz K) {bs : List Nat} {kk : Nat} {fs : List Nat} {i : Nat} {e : Bool} {r2 : List (Nat × Bool)} :
  ∀ (r1 : List (Nat × Bool)) (fr : Nat → Value) (w0 w : World), DB P n l tail N bs kk fs K (r1 ++ (i, e) :: r2) fr w0 → Ext w0 w → K w → (∀ p ∈ r1, Nj l bs p (i, e) = true ∧ (bs.getD i 0).testBit p.1 = false ∧ p.1 < kk) →
   Qh9 P l fr w i n fun fr' w' => ∃ K', K' w' ∧ Vz K' ∧ ((∀ u, K' u → K u) ∨ barB bs kk fs i = true) ∧ DB P n l tail N bs kk fs K' (r1 ++ r2) fr' w' := by
 intro r1
 induction r1 with
 | nil =>
  intro fr w0 w h he hw _
  cases e with
  | false =>
   obtain ⟨o, ho, hd, h⟩ := h
   exact ⟨o, ho, hd, h.mono (fun ⟨v, hv, hk⟩ => (hv w (.inl hw)).mono (by rintro _ _ ⟨rfl, e⟩; exact ⟨K, hK _ _ hw e, hK, .inl fun _ h => h, hk.ext (he.trans e)⟩)) (fun hk => ⟨K, hw, hK, .inl fun _ h => h, hk.ext he⟩)⟩
  | true =>
   obtain ⟨o, ho, hd, h⟩ := h
   exact ⟨o, ho, hd, h w he⟩
 | cons p r1 ih =>
  intro fr w0 w h he hw hp
  obtain ⟨j, k⟩ := p
  obtain ⟨hpo, hnb, hjk⟩ := hp (j, k) (by simp)
  have htr : ∀ {K' : World → Prop}, ((∀ u, K' u → K u) ∨ barB bs kk fs i = true) → ∀ u, (K' u ∨ fs.contains j = true) → (K u ∨ fs.contains j = true) := by
   intro K' h u hu
   cases hf : fs.contains j with
   | true => exact .inr rfl
   | false =>
    rw [hf] at hu
    exact .inl (h.resolve_right (by rw [Qmi hpo hnb hjk hf]; decide) u (hu.resolve_right (by decide)))
  simp only [Nj, Bool.and_eq_true, Bool.or_eq_true, Bool.not_eq_true'] at hpo
  rw [hnb] at hpo
  obtain ⟨_, hor⟩ := hpo
  obtain ⟨hk, hap⟩ := hor.resolve_left (by simp)
  subst hk
  obtain ⟨a, ha, hda, hg⟩ := h
  have both : ∀ u, DB P n l tail N bs kk fs K (r1 ++ (i, e) :: r2) (Bq fr a.dst u) w0 →
    Qh9 P l fr w i n fun fr' w' => ∃ K', (K' w' ∧ Vz K' ∧ ((∀ u, K' u → K u) ∨ barB bs kk fs i = true)) ∧ ∃ b, l[i]? = some b ∧ (∃ v', fr' = Bq fr b.dst v') ∧ DB P n l tail N bs kk fs K' (r1 ++ r2) (Bq fr' a.dst u) w' := by
   intro u hu
   obtain ⟨b, hb, hdb, hs⟩ := ih _ _ _ hu he hw (fun p hp' => hp p (List.mem_cons_of_mem _ hp'))
   obtain ⟨h1, h2, h3⟩ := Lp hap ha hb
   have hag : ∀ s ∈ Uc l b, Bq fr a.dst u s = fr s := Sz h1
   refine ⟨b, hb, hdb, (hs.frame hag).mono (fun ho => (ho.frame hag).mono ?_) ?_⟩
   ·rintro v w' ⟨K', e1, e2, e3, hk⟩
    refine ⟨K', ⟨e1, e2, e3⟩, b, hb, ⟨v, rfl⟩, ?_⟩
    rw [← Qba h3]; exact hk
   rintro ⟨K', e1, e2, e3, hk⟩
   refine ⟨K', ⟨e1, e2, e3⟩, b, hb, ⟨_, rfl⟩, ?_⟩
   rw [← Qba h3]; exact hk
  have fin : ∀ b, l[i]? = some b → ∀ s ∈ Uc l a, ∀ v', Bq fr b.dst v' s = fr s := by
   intro b hb s hs v'
   exact Sz (Lp hap ha hb).2.1 s hs
  unfold Gg at hg
  cases hgu : a.guard with
  | none =>
   rw [hgu] at hg
   obtain ⟨u, hev, hk⟩ := hg
   obtain ⟨b, hb, hdb, hs⟩ := both u hk
   refine ⟨b, hb, hdb, hs.mono (fun ho => ho.mono ?_) ?_⟩
   all_goals
    intros
    rename_i hh
    obtain ⟨K', ⟨e1, e2, e3⟩, b', hb', ⟨v', hv'⟩, hk'⟩ := hh
    refine ⟨K', e1, e2, e3, a, ha, hda, ?_⟩
    simp only [Gg, hgu]
    refine ⟨u, fun w2 hw2 => (hev w2 (htr e3 w2 hw2)).frame (l := l) fun s hs => ?_, hk'⟩
    rw [hv']; exact (fin b' hb' s hs v').symm
  | some g =>
   obtain ⟨jj, want⟩ := g
   rw [hgu] at hg
   obtain ⟨s, bb, hs1, hs2, hyes, hno⟩ := hg
   have hmem : s ∈ Uc l a := by simp [Uc, hgu, hs1]
   by_cases hbw : bb = some want
   ·obtain ⟨u, hev, hk⟩ := hyes hbw
    obtain ⟨b, hb, hdb, hs⟩ := both u hk
    refine ⟨b, hb, hdb, hs.mono (fun ho => ho.mono ?_) ?_⟩
    all_goals
     intros
     rename_i hh
     obtain ⟨K', ⟨e1, e2, e3⟩, b', hb', ⟨v', hv'⟩, hk'⟩ := hh
     refine ⟨K', e1, e2, e3, a, ha, hda, ?_⟩
     simp only [Gg, hgu]
     refine ⟨s, bb, hs1, by rw [hv', fin b' hb' s hmem v']; exact hs2, fun _ => ⟨u, fun w2 hw2 => (hev w2 (htr e3 w2 hw2)).frame (l := l) fun s hs => ?_, hk'⟩, fun hne => absurd hbw hne⟩
     rw [hv']; exact (fin b' hb' s hs v').symm
   have hk := hno hbw
   obtain ⟨b, hb, hdb, hs⟩ := both _ hk
   refine ⟨b, hb, hdb, hs.mono (fun ho => ho.mono ?_) ?_⟩
   all_goals
    intros
    rename_i hh
    obtain ⟨K', ⟨e1, e2, e3⟩, b', hb', ⟨v', hv'⟩, hk'⟩ := hh
    refine ⟨K', e1, e2, e3, a, ha, hda, ?_⟩
    simp only [Gg, hgu]
    exact ⟨s, bb, hs1, by rw [hv', fin b' hb' s hmem v']; exact hs2, fun heq => absurd heq hbw, fun _ => hk'⟩
section
variable {P : Program} {n : Nat} {l : List Oper} {tail : List Oper} {N : (Nat → Value) → World → Prop} {bs : List Nat} {kk : Nat} {fs : List Nat} {fr : Nat → Value} {w0 : World} {r : List (Nat × Bool)} {i : Nat} {op : Op} {ty : TypeId} {pos : String} {aft : Array Edge}
end
end --m
section
set_option linter.unusedVariables false
section
variable {P : Program} {fr : Nat → Value} {w : World} {ty T E : TypeId} {x : Operand} {z : Option Value} {k kb : Nat} {α : Type} {enc : α → List Value} {v : Value} {l : List α} {m : Nat → Option Obj}
end
end --m
section
set_option linter.unusedVariables false
set_option linter.unusedSimpArgs false
section
variable {α : Type} {enc : α → List Value} {k E : Nat} {v : Value} {l : List α} {Hs H : List (Nat × Obj)} {w : World} {R : Rest}
def Qgv (enc : α → List Value) (k E : Nat) (v : Value) (l : List α) (Hs : List (Nat × Obj)) (c : Nat) : Prop :=
 (∀ a ∈ l, (enc a).length = k) ∧ ∃ (b : Nat) (pre sp post : List Value) (ns : Nat), sp.length = ns * k ∧ c ≤ ns ∧ v = Ko b pre.length l.length (l.length + ns) ∧ Hs = [(b, .cells (pre ++ (l.flatMap enc ++ (sp ++ post))).toArray E (0, 0))]
theorem Qgv.grow {c : Nat} (h : Qgv enc k E v l Hs c) : J6 enc k E v l Hs := by
 obtain ⟨h0, b, pre, sp, post, ns, h1, _, h2, h3⟩ := h
 exact ⟨h0, .inr ⟨b, pre, sp, post, ns, h1, h2, h3⟩⟩
theorem Qgv.cast {l' : List α} {c c' : Nat} (h : Qgv enc k E v l Hs c) (e : l = l') (hc : c' ≤ c) : Qgv enc k E v l' Hs c' := by
 subst e; obtain ⟨h0, b, pre, sp, post, ns, h1, h4, h2, h3⟩ := h
 exact ⟨h0, b, pre, sp, post, ns, h1, Nat.le_trans hc h4, h2, h3⟩
end
section
variable {P : Program} {fr : Nat → Value} {w : World} {ty T T' E E' : TypeId} {x y : Operand} {kb k : Nat} {R : Rest} {H Hs : List (Nat × Obj)} {α : Type} {enc : α → List Value} {v : Value} {l : List α}
end
def Hm (l : List (BitVec 8)) : List (BitVec 8) := (l ++ List.replicate 32 0#8).take 32
theorem Qbe (l : List (BitVec 8)) : (Hm l).length = 32 := by unfold Hm; simp
theorem Qc4 {l : List (BitVec 8)} (h : l.length = 32) : Hm l = l := by unfold Hm; rw [← h, List.take_left]
structure Sn where
 r : List (BitVec 8)
 w : List (BitVec 8)
 o : List (BitVec 8)
 sb : Bool
 tb : Bool
 s : List (BitVec 8)
 t : List (BitVec 8)
 n1 : Int
 n2 : Int
 n3 : Int
 ks : List Kp
 hr : r.length = 32
 hw : w.length = 32
 ho : o.length = 32
 hs : s.length = 32
 ht : t.length = 32
@[simp] theorem Sn.lr (S : Sn) : S.r.length = 32 := S.hr
@[simp] theorem Sn.lw (S : Sn) : S.w.length = 32 := S.hw
@[simp] theorem Sn.lo (S : Sn) : S.o.length = 32 := S.ho
@[simp] theorem Sn.ls (S : Sn) : S.s.length = 32 := S.hs
@[simp] theorem Sn.lt (S : Sn) : S.t.length = 32 := S.ht
theorem Sn.l5 (S : Sn) : S.r.length = 32 ∧ S.w.length = 32 ∧ S.o.length = 32 ∧ S.s.length = 32 ∧ S.t.length = 32 := ⟨S.hr, S.hw, S.ho, S.hs, S.ht⟩
abbrev sS (S : Sn) (v : Value) : List (List Value) := sE S.r S.w S.o S.sb S.tb S.s S.t S.n1 S.n2 S.n3 v
def Sn.one (S : Sn) : Sn := ⟨S.r, S.w, S.o, S.sb, S.tb, X7 S.s [2#8], S.t, S.n1 + 1, S.n2, S.n3, S.ks, S.hr, S.hw, S.ho, Wu _ _, S.ht⟩
def Ja (S : Sn) : Int := if S.sb then if S.n1 = 2147483647 then 12 else 0 else 13
def Gf (S : Sn) : Sn := if Ja S = 0 then S.one else S
def Rh (S : Sn) (b p : List (BitVec 8)) : List (BitVec 8) := if Ja S = 0 then Bi S.w S.s S.n3 S.n1 b p else []
theorem Qdk (S : Sn) : (Gf S).ks = S.ks := by unfold Gf; split <;> rfl
def Eb (ro ow ot : List (BitVec 8)) : Sn :=
 ⟨Gi ro (Y9 ow ot), Hm ow, Hm ot, true, false, G6 ro (Y9 ow ot), List.replicate 32 0, 0, 0, 0, [], Rl _ _, Qbe _, Qbe _, Rn _ _, rfl⟩
def V9 (ro ow : List (BitVec 8)) : Sn :=
 ⟨Hm ro, Hm ow, List.replicate 32 0, false, false, List.replicate 32 0, List.replicate 32 0, 0, 0, 0, [], Qbe _, Qbe _, rfl, rfl, rfl⟩
def Sn.skip (S : Sn) : Sn := ⟨S.r, S.w, S.o, S.sb, S.tb, S.s, X7 S.t [2#8], S.n1, S.n2 + 1, S.n3, S.ks ++ [⟨S.o, S.n2, X7 S.t [1#8], S.ho, Wu _ _⟩], S.hr, S.hw, S.ho, S.hs, Wu _ _⟩
attribute [local irreducible] Qak Aa Ut Gi G6 Bi Jc J4 Jm X7 G7 Vw Y9 We Ea
end --m
section
set_option linter.unusedVariables false
set_option linter.unusedSimpArgs false
attribute [local irreducible] Qak Aa Ut Gi G6 Bi Jc J4 Jm X7 G7 Vw Y9 We Ea
end --m
section
set_option linter.unusedVariables false
set_option linter.unusedSimpArgs false
attribute [local irreducible] Qak Aa Ut Gi G6 Bi Jc J4 Jm X7 G7 Vw Y9 We Ea
end --m
section
set_option linter.unusedVariables false
set_option linter.unusedSimpArgs false
attribute [local irreducible] Qak Aa Ut Gi G6 Bi Jc J4 Jm X7 G7 Vw Y9 We Ea Hm
end --m
section
set_option linter.unusedVariables false
set_option linter.unusedSimpArgs false
attribute [local irreducible] Qak Aa Ut Gi G6 Bi Jc J4 Jm X7 G7 Vw Y9 We Ea
end --m
section
set_option linter.unusedVariables false
set_option linter.unusedSimpArgs false
section
variable {S : Sn} {b s f : List (BitVec 8)}
end
theorem RdK.ite {α : Type} {enc : α → List Value} {k : Nat} {m : Nat → Option Obj} {p : Prop} [Decidable p] {u v : Value} {l : List α} (h1 : p → RdK m enc k u l) (h2 : ¬ p → RdK m enc k v l) : RdK m enc k (if p then u else v) l := by
 split
 ·exact h1 ‹_›
 exact h2 ‹_›
attribute [local irreducible] Qak Aa Ut Gi G6 Bi Jc J4 Jm X7 G7 Vw Y9 V6 We Ea Hm
end --m
section
set_option linter.unusedVariables false
set_option linter.unusedSimpArgs false
def HK (R : Rest) (Hs : List (Nat × Obj)) (v : Value) (l : List Kp) : Prop := ∀ m, (∀ b o, R.blk b = some o → m b = some o) → (∀ p ∈ Hs, m p.1 = some p.2) → RdK m J9 65 v l
theorem HK.own {R : Rest} {Hs : List (Nat × Obj)} {v : Value} {l l' : List Kp} {E : TypeId} (g : J6 J9 65 E v l Hs) (e : l = l') : HK R Hs v l' := fun m _ h => e ▸ g.rdIn h
theorem HK.old {w : World} {v : Value} {l l' : List Kp} (h : RdK (Yq w) J9 65 v l) (e : l = l') : HK (Qy w) [] v l' := fun m h1 _ => e ▸ h.mono h1
theorem HK.rd {w : World} {R : Rest} {Hs H : List (Nat × Obj)} {v : Value} {l : List Kp} (h : HK R Hs v l) (hm : Mem w R (Hs ++ H)) : RdK (Yq w) J9 65 v l := h _ (fun b o e => hm.rest b o e) fun p hp => hm.own p (List.mem_append_left _ hp)
attribute [local irreducible] Qak Aa Ut Gi G6 Bi Jc J4 Jm X7 G7 Vw Y9 V6 We Ea Hm
end --m
end Go.Proofs.YtkmiemlpfkfiiaaDoor
