/- The framework, part R: new variables of one region, in whatever order they come. Conditions: none. -/
import Derived.Test.YtkmiemlpfkfiiaaDoorFwQ
namespace Go.Proofs.YtkmiemlpfkfiiaaDoor
set_option linter.unusedSimpArgs false
set_option linter.unusedVariables false
def Qc9 (a : Nat) : List Nat → List Oper → List Oper
  | [], le => le
  | b :: r, le => Qc9 a r (U5 a le b)
def E5 : List Nat → List Oper → List Oper
  | [], le => le
  | a :: r, le => E5 r (Qc9 a r le)
theorem P6 (a : Nat) : ∀ (r : List Nat) (le : List Oper), (Qc9 a r le).length = le.length
  | [], _ => rfl
  | b :: r, le => by rw [Qc9, P6 a r, Ug]
theorem H5 : ∀ (π : List Nat) (le : List Oper), (E5 π le).length = le.length
  | [], _ => rfl
  | a :: r, le => by rw [E5, H5 r, P6]
def Ny (a : Nat) : List Nat → List (List Nat)
  | [] => [[a]]
  | b :: l => (a :: b :: l) :: (Ny a l).map (b :: ·)
def Cb : List Nat → List (List Nat)
  | [] => [[]]
  | a :: l => (Cb l).flatMap (Ny a)
theorem Qbs (a : Nat) : ∀ (s t : List Nat), s ++ a :: t ∈ Ny a (s ++ t)
  | [], [] => by simp [Ny]
  | [], b :: t => by simp [Ny]
  | b :: s, t => by
    simp only [List.cons_append, Ny, List.mem_cons, List.mem_map]
    exact .inr ⟨_, Qbs a s t, rfl⟩
theorem Qaa : ∀ (A π : List Nat), π.Perm A → π ∈ Cb A
  | [], π, h => by have := h.eq_nil; subst this; simp [Cb]
  | a :: A, π, h => by
    have ha : a ∈ π := h.mem_iff.2 (by simp)
    obtain ⟨s, t, rfl⟩ := List.append_of_mem ha
    have h2 : (s ++ t).Perm A := (List.perm_cons a).1 (List.perm_middle.symm.trans h)
    simp only [Cb, List.mem_flatMap]
    exact ⟨_, Qaa A _ h2, Qbs a s t⟩
theorem Qbo {m : Region.Mode} {l : List Oper} : ∀ {σ done : List Nat}, F5 m l done σ → σ.Nodup ∧ (∀ i ∈ σ, i ∉ done)
  | [], _, _ => ⟨List.nodup_nil, by simp⟩
  | i :: σ, done, ⟨_, h2, _, h4⟩ => by
    obtain ⟨k1, k2⟩ := Qbo h4
    refine ⟨List.nodup_cons.2 ⟨fun hi => k2 i hi (by simp), k1⟩, fun j hj => ?_⟩
    rcases List.mem_cons.1 hj with rfl | hj
    · exact h2
    · exact fun hd => k2 j hj (by simp [hd])
theorem Qdm {m : Region.Mode} {l : List Oper} : ∀ {σ done : List Nat}, F5 m l done σ → ∀ i, i < l.length → i ∈ done ∨ i ∈ σ
  | [], _, h, i, hi => .inl (h i hi)
  | j :: σ, done, ⟨_, _, _, h4⟩, i, hi => by
    rcases Qdm h4 i hi with h | h
    · rcases List.mem_cons.1 h with rfl | h
      · exact .inr (by simp)
      · exact .inl h
    · exact .inr (by simp [h])
theorem Ae {a b : Nat} : ∀ {σ : List Nat}, [a, b].Sublist σ → σ.Nodup → Qd5 a b σ
  | [], h, _ => by cases h
  | i :: σ, h, hn => by
    rw [List.nodup_cons] at hn
    cases h with
    | cons _ h =>
      have hb : b ∈ σ := h.subset (by simp)
      exact .inr ⟨fun e => hn.1 (e ▸ hb), Ae h hn.2⟩
    | cons_cons _ h => exact .inl rfl
theorem Td {a : Nat} : ∀ (r : List Nat) {le : List Oper} {σ : List Nat}, (∀ b ∈ r, a ≠ b ∧ Qd5 a b σ) → F5 .any le [] σ → F5 .any (Qc9 a r le) [] σ
  | [], _, _, _, h => h
  | b :: r, le, σ, hr, h => by
    obtain ⟨h1, h2⟩ := hr b (by simp)
    exact Td r (fun c hc => hr c (by simp [hc])) (Qau h1 σ [] h (.inr (.inr h2)))
theorem Qbp : ∀ (π : List Nat) {le : List Oper} {σ : List Nat}, π.Sublist σ → σ.Nodup → F5 .any le [] σ → F5 .any (E5 π le) [] σ
  | [], _, _, _, _, h => h
  | a :: r, le, σ, hs, hn, h => by
    refine Qbp r ((List.sublist_cons_self a _).trans hs) hn (Td r (fun b hb => ?_) h)
    have hab : [a, b].Sublist σ := ((List.singleton_sublist.2 hb).cons_cons a).trans hs
    have hne : a ≠ b := by
      have := hn.sublist hab
      simp at this; exact this
    exact ⟨hne, Ae hab hn⟩
theorem Qe7 {A σ : List Nat} (hA : A.Nodup) (hs : σ.Nodup) (h : ∀ a ∈ A, a ∈ σ) : (σ.filter fun i => A.contains i).Perm A := by
  refine (List.perm_ext_iff_of_nodup (hs.filter _) hA).2 fun i => ?_
  simp only [List.mem_filter, List.contains_iff_mem]
  exact ⟨fun h => h.2, fun hi => ⟨h i hi, hi⟩⟩
theorem re_perm {P : Program} {n : Nat} {l le : List Oper} {N : (Nat → Value) → World → Prop} {fr : Nat → Value} {w : World} (A : List Nat) (hll : le.length = l.length) (hA : A.Nodup) (hlt : ∀ a ∈ A, a < le.length) (h : ∀ π, π.Perm A → H6 P n l (E5 π le) N fr w) : H6 P n l le N fr w := by
  refine ⟨hll, fun rd ds σ hs => ?_⟩
  have hn := (Qbo hs).1
  have hp := Qe7 hA hn fun a ha => (Qdm hs a (hlt a ha)).resolve_left (by simp)
  exact (h _ hp).2 rd ds σ (Qbp _ List.filter_sublist hn hs)
section
variable {P : Program} {n : Nat} {l le : List Oper} {tail : List Oper} {N : (Nat → Value) → World → Prop} {r : List (Nat × Bool)} {R : Rest} {D : Nat → Nat} {T : Nat → TypeId} {Z : Nat → Value}
def C9 (P : Program) (n : Nat) (l : List Oper) (D : Nat → Nat) (T : Nat → TypeId) (Z : Nat → Value) (i : Nat) : Prop :=
  (∃ ty pos aft, l[i]? = some ⟨some (D i), .alloc (T i), ty, pos, aft, none⟩) ∧ Nat.blt (D i) n = true ∧ ∃ m kb, Yp P (T i) = some (some (Z i), m, kb)
theorem Qbk : ∀ i ∈ ([] : List Nat), C9 P n l D T Z i := fun _ h => by cases h
theorem U4 {i : Nat} {A : List Nat} (h : C9 P n l D T Z i) (hr : ∀ j ∈ A, C9 P n l D T Z j) : ∀ j ∈ i :: A, C9 P n l D T Z j := fun j hj => by
  rcases List.mem_cons.1 hj with rfl | hj
  · exact h
  · exact hr j hj
theorem Qhz {K : World → Prop} (hK : Gi K) (r2 : List (Nat × Bool)) : ∀ (π : List Nat) (fr : Nat → Value) (w0 w : World) (H0 : List (Nat × Obj)), (∀ i ∈ π, C9 P n l D T Z i) → π.Nodup → (∀ i ∈ π, ∀ j ∈ π, D i = D j → i = j) → Mem w R H0 → K w →
    (∀ g w1 (ps : Nat → Nat), (∀ t, (∀ i ∈ π, D i ≠ t) → g t = fr t) → (∀ i ∈ π, g (D i) = ptr (ps i) 0) → Mem w1 R (π.map (fun i => (ps i, Obj.cells (Z i).cells (T i) (0, 0))) ++ H0) → K w1 → DW P n l tail N K r2 g w1) →
    DW P n l tail N K (π.map (fun i => (i, true)) ++ r2) fr w := by
  intro π
  induction π with
  | nil => intro fr w0 w H0 _ _ _ hm hw k; exact k fr w (fun _ => 0) (fun _ _ => rfl) (by simp) hm hw
  | cons i π ih =>
    intro fr w0 w H0 ha hn hd hm hw k
    obtain ⟨⟨ty, pos, aft, ho⟩, hdn, m, kb, hz⟩ := ha i (by simp)
    rw [List.nodup_cons] at hn
    refine ⟨_, ho, Fv hdn, fun w' he => ?_⟩
    show Jr P fr w' (.alloc (T i)) ty _
    refine Jr.mono (Qcr (ty := ty) (hm.ext he) hz) ?_
    rintro _ w'' ⟨b, rfl, he2, hm2⟩
    have hw2 : K w'' := hK _ _ hw (he.trans he2)
    refine ⟨K, hw2, hK, fun _ h => h, ih _ w'' w'' _ (fun j hj => ha j (by simp [hj])) hn.2 (fun j hj q hq => hd j (by simp [hj]) q (by simp [hq])) hm2 hw2 ?_⟩
    intro g w1 ps hg hp hm3 hw1
    have hps : ∀ j ∈ π, (if j = i then b else ps j) = ps j := fun j hj => if_neg (fun (e : j = i) => hn.1 (e ▸ hj))
    refine k g w1 (fun j => if j = i then b else ps j) ?_ ?_ ?_ hw1
    · intro t ht
      rw [hg t fun j hj => ht j (by simp [hj])]
      exact Af _ _ (ht i (by simp)).symm
    · intro j hj
      rcases List.mem_cons.1 hj with hji | hj
      · have e1 : g (D i) = ptr b 0 := by
          have h1 := hg (D i) (fun q hq (e : D q = D i) => hn.1 ((hd q (by simp [hq]) i (by simp) e) ▸ hq))
          rw [h1]; exact Bh _ _ _
        rw [hji]; simpa using e1
      · simp only [hps j hj]; exact hp j hj
    · refine hm3.perm ?_
      rw [List.map_cons, List.cons_append]
      have e : π.map (fun j => ((if j = i then b else ps j), Obj.cells (Z j).cells (T j) (0, 0))) = π.map (fun j => (ps j, Obj.cells (Z j).cells (T j) (0, 0))) := List.map_congr_left fun j hj => by rw [hps j hj]
      rw [e]
      simp only [if_true]
      exact List.perm_middle.symm
def luN (l : List (Nat × Nat)) (i : Nat) : Nat := (l.lookup i).getD 0
def luV (l : List (Nat × Value)) (i : Nat) : Value := (l.lookup i).getD undef
theorem Qcp {fr : Nat → Value} {w : World} {H0 : List (Nat × Obj)} (K : World → Prop) (hK : Gi K) (hw : K w) (A : List Nat) (r r2 : List (Nat × Bool)) (k : Nat) (D : Nat → Nat) (T : Nat → TypeId) (Z : Nat → Value) (J : (Nat → Value) → Prop) (hm : Mem w R H0) (hll : le.length = l.length) (hA : A.Nodup) (hlt : A.all (fun a => Nat.blt a le.length) = true)
    (hp : (Cb A).all (fun π => Dj l (E5 π le) (r ++ (π.map (fun i => (i, true)) ++ r2)) k) = true) (ha : ∀ i ∈ A, C9 P n l D T Z i) (hd : ∀ i ∈ A, ∀ j ∈ A, D i = D j → i = j)
    (hq : ∀ s, (∀ g, J g → DW P n l (l.drop k) N K s g w) → DW P n l (l.drop k) N K (r ++ s) fr w)
    (h : ∀ g0, J g0 → ∀ g w1 (ps : Nat → Nat), (∀ t, (∀ i ∈ A, D i ≠ t) → g t = g0 t) → (∀ i ∈ A, g (D i) = ptr (ps i) 0) → Mem w1 R (A.map (fun i => (ps i, Obj.cells (Z i).cells (T i) (0, 0))) ++ H0) → K w1 → DW P n l (l.drop k) N K r2 g w1) :
    H6 P n l le N fr w := by
  refine re_perm A hll hA (fun a ha => Nat.le_of_ble_eq_true (List.all_eq_true.1 hlt a ha)) fun π hπ => ?_
  have hplan := List.all_eq_true.1 hp π (Qaa A π hπ)
  refine Qco K hK hw _ k (by rw [H5, hll]) hplan (hq _ fun g0 hJ => ?_)
  refine Qhz hK r2 π g0 w w H0 (fun i hi => ha i (hπ.mem_iff.1 hi)) (hπ.nodup_iff.2 hA) (fun i hi j hj => hd i (hπ.mem_iff.1 hi) j (hπ.mem_iff.1 hj)) hm hw ?_
  intro g w1 ps hg hps hmm hw1
  exact h g0 hJ g w1 ps (fun t ht => hg t fun i hi => ht i (hπ.mem_iff.1 hi)) (fun i hi => hps i (hπ.mem_iff.2 hi)) (hmm.perm (List.Perm.append_right _ (hπ.symm.map _))) hw1
theorem Bo {fr : Nat → Value} {w : World} {H0 : List (Nat × Obj)} (A : List Nat) (r : List (Nat × Bool)) (k : Nat) (D : Nat → Nat) (T : Nat → TypeId) (Z : Nat → Value) (J : (Nat → Value) → Prop) (hm : Mem w R H0) (hll : le.length = l.length) (hA : A.Nodup) (hlt : A.all (fun a => Nat.blt a le.length) = true)
    (hp : (Cb A).all (fun π => Dj l (E5 π le) (r ++ (π.map (fun i => (i, true)) ++ [])) k) = true) (ha : ∀ i ∈ A, C9 P n l D T Z i) (hd : ∀ i ∈ A, ∀ j ∈ A, D i = D j → i = j)
    (hq : ∀ s, (∀ g, J g → DW P n l (l.drop k) N (Ext w) s g w) → DW P n l (l.drop k) N (Ext w) (r ++ s) fr w)
    (h : ∀ g0, J g0 → ∀ g w1 (ps : Nat → Nat), (∀ t, (∀ i ∈ A, D i ≠ t) → g t = g0 t) → (∀ i ∈ A, g (D i) = ptr (ps i) 0) → Mem w1 R (A.map (fun i => (ps i, Obj.cells (Z i).cells (T i) (0, 0))) ++ H0) → RW P n l.toArray (l.drop k) N g w1) :
    H6 P n l le N fr w :=
  Qcp (Ext w) (Be w) (Ext.refl w) A r [] k D T Z J hm hll hA hlt hp ha hd hq fun g0 hJ g w1 ps hg hps hmm hw1 => X3 fun w2 he => h g0 hJ g w2 ps hg hps (hmm.ext he)
theorem Qfz {fr : Nat → Value} {w : World} {H0 : List (Nat × Obj)} (A : List Nat) (r r2 : List (Nat × Bool)) (k : Nat) (D : Nat → Nat) (T : Nat → TypeId) (Z : Nat → Value) (J : (Nat → Value) → Prop) (hm : Mem w R H0) (hll : le.length = l.length) (hA : A.Nodup) (hlt : A.all (fun a => Nat.blt a le.length) = true)
    (hp : (Cb A).all (fun π => Dj l (E5 π le) (r ++ (π.map (fun i => (i, true)) ++ r2)) k) = true) (ha : ∀ i ∈ A, C9 P n l D T Z i) (hd : ∀ i ∈ A, ∀ j ∈ A, D i = D j → i = j)
    (hq : ∀ s, (∀ g, J g → DW P n l (l.drop k) N (KR R) s g w) → DW P n l (l.drop k) N (KR R) (r ++ s) fr w)
    (h : ∀ g0, J g0 → ∀ g w1 (ps : Nat → Nat), (∀ t, (∀ i ∈ A, D i ≠ t) → g t = g0 t) → (∀ i ∈ A, g (D i) = ptr (ps i) 0) → Mem w1 R (A.map (fun i => (ps i, Obj.cells (Z i).cells (T i) (0, 0))) ++ H0) → DW P n l (l.drop k) N (KR R) r2 g w1) :
    H6 P n l le N fr w :=
  Qcp (KR R) (Nw R) ⟨_, hm⟩ A r r2 k D T Z J hm hll hA hlt hp ha hd hq fun g0 hJ g w1 ps hg hps hmm _ => h g0 hJ g w1 ps hg hps hmm
end
end Go.Proofs.YtkmiemlpfkfiiaaDoor
