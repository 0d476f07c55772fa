/- The framework, part R: new variables of one region, in whatever order they come. Conditions: none. -/
import Derived.Test.YtkmiemlpfkfiiaaDoorFwQ
namespace Go.Proofs.YtkmiemlpfkfiiaaDoor
set_option linter.unusedSimpArgs false
set_option linter.unusedVariables false
def Qkv (a : Nat) : List Nat → List Oper → List Oper
 | [], le => le
 | b :: r, le => Qkv a r (Lm a le b)
def Lj : List Nat → List Oper → List Oper
 | [], le => le
 | a :: r, le => Lj r (Qkv a r le)
theorem Qex (a : Nat) : ∀ (r : List Nat) (le : List Oper), (Qkv a r le).length = le.length
 | [], _ => rfl
 | b :: r, le => by rw [Qkv, Qex a r, Ak]
theorem Qcw : ∀ (π : List Nat) (le : List Oper), (Lj π le).length = le.length
 | [], _ => rfl
 | a :: r, le => by rw [Lj, Qcw r, Qex]
def Qd5 (a : Nat) : List Nat → List (List Nat)
 | [] => [[a]]
 | b :: l => (a :: b :: l) :: (Qd5 a l).map (b :: ·)
def Nz : List Nat → List (List Nat)
 | [] => [[]]
 | a :: l => (Nz l).flatMap (Qd5 a)
theorem Qh7 (a : Nat) : ∀ (s t : List Nat), s ++ a :: t ∈ Qd5 a (s ++ t)
 | [], [] => by simp [Qd5]
 | [], b :: t => by simp [Qd5]
 | b :: s, t => by
  simp only [List.cons_append, Qd5, List.mem_cons, List.mem_map]
  exact .inr ⟨_, Qh7 a s t, rfl⟩
theorem Qf9 : ∀ (A π : List Nat), π.Perm A → π ∈ Nz A
 | [], π, h => by have := h.eq_nil; subst this; simp [Nz]
 | a :: A, π, h => by
  have ha : a ∈ π := h.mem_iff.2 Ya
  obtain ⟨s, t, rfl⟩ := List.append_of_mem ha
  have h2 : (s ++ t).Perm A := (List.perm_cons a).1 (List.perm_middle.symm.trans h)
  simp only [Nz, List.mem_flatMap]
  exact ⟨_, Qf9 A _ h2, Qh7 a s t⟩
theorem Qhw {m : Region.Mode} {l : List Oper} : ∀ {σ done : List Nat}, Nj m l done σ → σ.Nodup ∧ (∀ i ∈ σ, i ∉ done)
 | [], _, _ => ⟨List.nodup_nil, by simp⟩
 | i :: σ, done, ⟨_, h2, _, h4⟩ => by
  obtain ⟨k1, k2⟩ := Qhw h4
  refine ⟨List.nodup_cons.2 ⟨fun hi => k2 i hi Ya, k1⟩, fun j hj => ?_⟩
  rcases List.mem_cons.1 hj with rfl | hj
  ·exact h2
  exact fun hd => k2 j hj (by simp [hd])
theorem Qlj {m : Region.Mode} {l : List Oper} : ∀ {σ done : List Nat}, Nj m l done σ → ∀ i, i < l.length → i ∈ done ∨ i ∈ σ
 | [], _, h, i, hi => .inl (h i hi)
 | j :: σ, done, ⟨_, _, _, h4⟩, i, hi => by
  rcases Qlj h4 i hi with h | h
  ·rcases List.mem_cons.1 h with rfl | h
   ·exact .inr Ya
   exact .inl h
  exact .inr (by simp [h])
theorem Qb4 {a b : Nat} : ∀ {σ : List Nat}, [a, b].Sublist σ → σ.Nodup → Qme a b σ
 | [], h, _ => by cases h
 | i :: σ, h, hn => by
  rw [List.nodup_cons] at hn
  cases h with
  | cons _ h =>
   have hb : b ∈ σ := h.subset Ya
   exact .inr ⟨fun e => hn.1 (e ▸ hb), Qb4 h hn.2⟩
  | cons_cons _ h => exact .inl rfl
theorem Qfy {a : Nat} : ∀ (r : List Nat) {le : List Oper} {σ : List Nat}, (∀ b ∈ r, a ≠ b ∧ Qme a b σ) → Nj .any le [] σ → Nj .any (Qkv a r le) [] σ
 | [], _, _, _, h => h
 | b :: r, le, σ, hr, h => by
  obtain ⟨h1, h2⟩ := hr b Ya
  exact Qfy r (fun c hc => hr c (by simp [hc])) (Qg7 h1 σ [] h (.inr (.inr h2)))
theorem Qhy : ∀ (π : List Nat) {le : List Oper} {σ : List Nat}, π.Sublist σ → σ.Nodup → Nj .any le [] σ → Nj .any (Lj π le) [] σ
 | [], _, _, _, _, h => h
 | a :: r, le, σ, hs, hn, h => by
  refine Qhy r ((List.sublist_cons_self a _).trans hs) hn (Qfy r (fun b hb => ?_) h)
  have hab : [a, b].Sublist σ := ((List.singleton_sublist.2 hb).cons_cons a).trans hs
  have hne : a ≠ b := by
   have := hn.sublist hab
   simp at this; exact this
  exact ⟨hne, Qb4 hab hn⟩
theorem Qos {A σ : List Nat} (hA : A.Nodup) (hs : σ.Nodup) (h : ∀ a ∈ A, a ∈ σ) : (σ.filter fun i => A.contains i).Perm A := by
 refine (List.perm_ext_iff_of_nodup (hs.filter _) hA).2 fun i => ?_
 simp only [List.mem_filter, List.contains_iff_mem]
 exact ⟨fun h => h.2, fun hi => ⟨h i hi, hi⟩⟩
theorem re_perm {P : Program} {n : Nat} {l le : List Oper} {N : (Nat → Value) → World → Prop} {fr : Nat → Value} {w : World} (A : List Nat) (hll : le.length = l.length) (hA : A.Nodup) (hlt : ∀ a ∈ A, a < le.length) (h : ∀ π, π.Perm A → Qax P n l (Lj π le) N fr w) : Qax P n l le N fr w := by
 refine ⟨hll, fun rd ds σ hs => ?_⟩
 have hn := (Qhw hs).1
 have hp := Qos hA hn fun a ha => (Qlj hs a (hlt a ha)).resolve_left Ya
 exact (h _ hp).2 rd ds σ (Qhy _ List.filter_sublist hn hs)
section
variable {P : Program} {n : Nat} {l le : List Oper} {tail : List Oper} {N : (Nat → Value) → World → Prop} {r : List (Nat × Bool)} {R : Rest} {D : Nat → Nat} {T : Nat → TypeId} {Z : Nat → Value}
def Rn (P : Program) (n : Nat) (l : List Oper) (D : Nat → Nat) (T : Nat → TypeId) (Z : Nat → Value) (i : Nat) : Prop :=
 (∃ ty pos aft, l[i]? = some ⟨some (D i), .alloc (T i), ty, pos, aft, none⟩) ∧ Nat.blt (D i) n = true ∧ ∃ m kb, Ji P (T i) = some (some (Z i), m, kb)
theorem Sz : ∀ i ∈ ([] : List Nat), Rn P n l D T Z i := fun _ h => by cases h
theorem Wq {i : Nat} {A : List Nat} (h : Rn P n l D T Z i) (hr : ∀ j ∈ A, Rn P n l D T Z j) : ∀ j ∈ i :: A, Rn P n l D T Z j := fun j hj => by
 rcases List.mem_cons.1 hj with rfl | hj
 ·exact h
 exact hr j hj
theorem Qul {K : World → Prop} (hK : Gs K) (r2 : List (Nat × Bool)) : ∀ (π : List Nat) (fr : Nat → Value) (w0 w : World) (H0 : List (Nat × Obj)), (∀ i ∈ π, Rn P n l D T Z i) → π.Nodup → (∀ i ∈ π, ∀ j ∈ π, D i = D j → i = j) → Mem w R H0 → K w →
  (∀ g w1 (ps : Nat → Nat), (∀ t, (∀ i ∈ π, D i ≠ t) → g t = fr t) → (∀ i ∈ π, g (D i) = ptr (ps i) 0) → Mem w1 R (π.map (fun i => (ps i, Obj.cells (Z i).cells (T i) (0, 0))) ++ H0) → K w1 → DW P n l tail N K r2 g w1) →
  DW P n l tail N K (π.map (fun i => (i, true)) ++ r2) fr w := by
 intro π
 induction π with
 | nil => intro fr w0 w H0 _ _ _ hm hw k; exact k fr w (fun _ => 0) (fun _ _ => rfl) Ya hm hw
 | cons i π ih =>
  intro fr w0 w H0 ha hn hd hm hw k
  obtain ⟨⟨ty, pos, aft, ho⟩, hdn, m, kb, hz⟩ := ha i Ya
  rw [List.nodup_cons] at hn
  refine ⟨_, ho, Nw hdn, fun w' he => ?_⟩
  show Vf P fr w' (.alloc (T i)) ty _
  refine Vf.mono (Qj1 (ty := ty) (hm.ext he) hz) ?_
  rintro _ w'' ⟨b, rfl, he2, m2⟩
  have hw2 : K w'' := hK _ _ hw (he.trans he2)
  refine ⟨K, hw2, hK, fun _ h => h, ih _ w'' w'' _ (fun j hj => ha j (by simp [hj])) hn.2 (fun j hj q hq => hd j (by simp [hj]) q (by simp [hq])) m2 hw2 ?_⟩
  intro g w1 ps hg hp m3 hw1
  have hps : ∀ j ∈ π, (if j = i then b else ps j) = ps j := fun j hj => if_neg (fun (e : j = i) => hn.1 (e ▸ hj))
  refine k g w1 (fun j => if j = i then b else ps j) ?_ ?_ ?_ hw1
  ·intro t ht
   rw [hg t fun j hj => ht j (by simp [hj])]
   exact Qaf _ _ (ht i Ya).symm
  ·intro j hj
   rcases List.mem_cons.1 hj with hji | hj
   ·have e1 : g (D i) = ptr b 0 := by
     have h1 := hg (D i) (fun q hq (e : D q = D i) => hn.1 ((hd q (by simp [hq]) i Ya e) ▸ hq))
     rw [h1]; exact Qae _ _ _
    rw [hji]; simpa using e1
   simp only [hps j hj]; exact hp j hj
  refine m3.perm ?_
  rw [List.map_cons, List.cons_append]
  have e : π.map (fun j => ((if j = i then b else ps j), Obj.cells (Z j).cells (T j) (0, 0))) = π.map (fun j => (ps j, Obj.cells (Z j).cells (T j) (0, 0))) := List.map_congr_left fun j hj => by rw [hps j hj]
  rw [e]
  simp only [if_true]
  exact List.perm_middle.symm
def luN (l : List (Nat × Nat)) (i : Nat) : Nat := (l.lookup i).getD 0
def luV (l : List (Nat × Value)) (i : Nat) : Value := (l.lookup i).getD undef
theorem Qjs {fr : Nat → Value} {w : World} {H0 : List (Nat × Obj)} (K : World → Prop) (hK : Gs K) (hw : K w) (A : List Nat) (r r2 : List (Nat × Bool)) (k : Nat) (D : Nat → Nat) (T : Nat → TypeId) (Z : Nat → Value) (J : (Nat → Value) → Prop) (hm : Mem w R H0) (hll : le.length = l.length) (hA : A.Nodup) (hlt : A.all (fun a => Nat.blt a le.length) = true)
  (hp : (Nz A).all (fun π => Bq l (Lj π le) (r ++ (π.map (fun i => (i, true)) ++ r2)) k) = true) (ha : ∀ i ∈ A, Rn P n l D T Z i) (hd : ∀ i ∈ A, ∀ j ∈ A, D i = D j → i = j)
  (hq : ∀ s, (∀ g, J g → DW P n l (l.drop k) N K s g w) → DW P n l (l.drop k) N K (r ++ s) fr w)
  (h : ∀ g0, J g0 → ∀ g w1 (ps : Nat → Nat), (∀ t, (∀ i ∈ A, D i ≠ t) → g t = g0 t) → (∀ i ∈ A, g (D i) = ptr (ps i) 0) → Mem w1 R (A.map (fun i => (ps i, Obj.cells (Z i).cells (T i) (0, 0))) ++ H0) → K w1 → DW P n l (l.drop k) N K r2 g w1) :
  Qax P n l le N fr w := by
 refine re_perm A hll hA (fun a ha => Nat.le_of_ble_eq_true (List.all_eq_true.1 hlt a ha)) fun π hπ => ?_
 have hplan := List.all_eq_true.1 hp π (Qf9 A π hπ)
 refine Qjq K hK hw _ k (by rw [Qcw, hll]) hplan (hq _ fun g0 hJ => ?_)
 refine Qul hK r2 π g0 w w H0 (fun i hi => ha i (hπ.mem_iff.1 hi)) (hπ.nodup_iff.2 hA) (fun i hi j hj => hd i (hπ.mem_iff.1 hi) j (hπ.mem_iff.1 hj)) hm hw ?_
 intro g w1 ps hg hps hmm hw1
 exact h g0 hJ g w1 ps (fun t ht => hg t fun i hi => ht i (hπ.mem_iff.1 hi)) (fun i hi => hps i (hπ.mem_iff.2 hi)) (hmm.perm (List.Perm.append_right _ (hπ.symm.map _))) hw1
theorem Qtt {fr : Nat → Value} {w : World} {H0 : List (Nat × Obj)} (A : List Nat) (r : List (Nat × Bool)) (k : Nat) (D : Nat → Nat) (T : Nat → TypeId) (Z : Nat → Value) (J : (Nat → Value) → Prop) (hm : Mem w R H0) (hll : le.length = l.length) (hA : A.Nodup) (hlt : A.all (fun a => Nat.blt a le.length) = true)
  (hp : (Nz A).all (fun π => Bq l (Lj π le) (r ++ (π.map (fun i => (i, true)) ++ [])) k) = true) (ha : ∀ i ∈ A, Rn P n l D T Z i) (hd : ∀ i ∈ A, ∀ j ∈ A, D i = D j → i = j)
  (hq : ∀ s, (∀ g, J g → DW P n l (l.drop k) N (Ext w) s g w) → DW P n l (l.drop k) N (Ext w) (r ++ s) fr w)
  (h : ∀ g0, J g0 → ∀ g w1 (ps : Nat → Nat), (∀ t, (∀ i ∈ A, D i ≠ t) → g t = g0 t) → (∀ i ∈ A, g (D i) = ptr (ps i) 0) → Mem w1 R (A.map (fun i => (ps i, Obj.cells (Z i).cells (T i) (0, 0))) ++ H0) → RW P n l.toArray (l.drop k) N g w1) :
  Qax P n l le N fr w :=
 Qjs (Ext w) (Lc w) (Ext.refl w) A r [] k D T Z J hm hll hA hlt hp ha hd hq fun g0 hJ g w1 ps hg hps hmm hw1 => dw_nil fun w2 he => h g0 hJ g w2 ps hg hps (hmm.ext he)
theorem Qp6 {fr : Nat → Value} {w : World} {H0 : List (Nat × Obj)} (A : List Nat) (r r2 : List (Nat × Bool)) (k : Nat) (D : Nat → Nat) (T : Nat → TypeId) (Z : Nat → Value) (J : (Nat → Value) → Prop) (hm : Mem w R H0) (hll : le.length = l.length) (hA : A.Nodup) (hlt : A.all (fun a => Nat.blt a le.length) = true)
  (hp : (Nz A).all (fun π => Bq l (Lj π le) (r ++ (π.map (fun i => (i, true)) ++ r2)) k) = true) (ha : ∀ i ∈ A, Rn P n l D T Z i) (hd : ∀ i ∈ A, ∀ j ∈ A, D i = D j → i = j)
  (hq : ∀ s, (∀ g, J g → DW P n l (l.drop k) N (KR R) s g w) → DW P n l (l.drop k) N (KR R) (r ++ s) fr w)
  (h : ∀ g0, J g0 → ∀ g w1 (ps : Nat → Nat), (∀ t, (∀ i ∈ A, D i ≠ t) → g t = g0 t) → (∀ i ∈ A, g (D i) = ptr (ps i) 0) → Mem w1 R (A.map (fun i => (ps i, Obj.cells (Z i).cells (T i) (0, 0))) ++ H0) → DW P n l (l.drop k) N (KR R) r2 g w1) :
  Qax P n l le N fr w :=
 Qjs (KR R) (Qd4 R) ⟨_, hm⟩ A r r2 k D T Z J hm hll hA hlt hp ha hd hq fun g0 hJ g w1 ps hg hps hmm _ => h g0 hJ g w1 ps hg hps hmm
def updA : List Nat → (Nat → Nat) → (Nat → Nat) → (Nat → Value) → Nat → Value
 | [], _, _, g => g
 | i :: A, D, ps, g => upd (updA A D ps g) (D i) (ptr (ps i) 0)
theorem Qr0 {g g0 : Nat → Value} {ps : Nat → Nat} : ∀ (A : List Nat), (∀ i ∈ A, g (D i) = ptr (ps i) 0) → ∀ i ∈ A, updA A D ps g0 (D i) = g (D i)
 | [], _, _, h => by cases h
 | j :: A, hg, i, hi => by
  by_cases e : D j = D i
  ·rw [← e, hg j Ya]; exact Qae _ _ _
  rw [updA, Qaf _ _ (fun h => e h.symm)]
  exact Qr0 A (fun q hq => hg q (by simp [hq])) i ((List.mem_cons.1 hi).resolve_left fun h => e (by rw [h]))
theorem Qn0 {g0 : Nat → Value} {ps : Nat → Nat} {t : Nat} : ∀ (A : List Nat), (∀ i ∈ A, D i ≠ t) → updA A D ps g0 t = g0 t
 | [], _ => rfl
 | j :: A, h => by rw [updA, Qaf _ _ (h j Ya).symm]; exact Qn0 A fun q hq => h q (by simp [hq])
theorem Qr1 {g g0 : Nat → Value} {ps : Nat → Nat} {A : List Nat} (h : ∀ t, (∀ i ∈ A, D i ≠ t) → g t = g0 t) (hg : ∀ i ∈ A, g (D i) = ptr (ps i) 0) : g = updA A D ps g0 := by
 funext t
 by_cases e : ∀ i ∈ A, D i ≠ t
 ·rw [Qn0 A e]; exact h t e
 simp only [Classical.not_forall, not_imp, Decidable.not_not] at e
 obtain ⟨i, hi, rfl⟩ := e
 exact (Qr0 A hg i hi).symm
theorem Qeq {fr : Nat → Value} {w : World} {H0 : List (Nat × Obj)} (A : List Nat) (r : List (Nat × Bool)) (k : Nat) (D : Nat → Nat) (T : Nat → TypeId) (Z : Nat → Value) (J : (Nat → Value) → Prop) (hm : Mem w R H0) (ha : ∀ i ∈ A, Rn P n l D T Z i)
  (hq : ∀ s, (∀ g, J g → DW P n l (l.drop k) N (Ext w) s g w) → DW P n l (l.drop k) N (Ext w) (r ++ s) fr w)
  (h : ∀ g0, J g0 → ∀ w1 (ps : Nat → Nat), Mem w1 R (A.map (fun i => (ps i, Obj.cells (Z i).cells (T i) (0, 0))) ++ H0) → RW P n l.toArray (l.drop k) N (updA A D ps g0) w1)
  (hll : le.length = l.length := by rfl) (hA : A.Nodup := by decide) (hlt : A.all (fun a => Nat.blt a le.length) = true := by kernel_rfl)
  (hp : (Nz A).all (fun π => Bq l (Lj π le) (r ++ (π.map (fun i => (i, true)) ++ [])) k) = true := by kernel_rfl) (hd : ∀ i ∈ A, ∀ j ∈ A, D i = D j → i = j := by decide) : Qax P n l le N fr w :=
 Qtt A r k D T Z J hm hll hA hlt hp ha hd hq fun g0 hJ g w1 ps hg hps hmm => by rw [Qr1 hg hps]; exact h g0 hJ w1 ps hmm
theorem re_alM {fr : Nat → Value} {w : World} {H0 : List (Nat × Obj)} (A : List Nat) (r r2 : List (Nat × Bool)) (k : Nat) (D : Nat → Nat) (T : Nat → TypeId) (Z : Nat → Value) (J : (Nat → Value) → Prop) (hm : Mem w R H0) (ha : ∀ i ∈ A, Rn P n l D T Z i)
  (hq : ∀ s, (∀ g, J g → DW P n l (l.drop k) N (KR R) s g w) → DW P n l (l.drop k) N (KR R) (r ++ s) fr w)
  (h : ∀ g0, J g0 → ∀ w1 (ps : Nat → Nat), Mem w1 R (A.map (fun i => (ps i, Obj.cells (Z i).cells (T i) (0, 0))) ++ H0) → DW P n l (l.drop k) N (KR R) r2 (updA A D ps g0) w1)
  (hll : le.length = l.length := by rfl) (hA : A.Nodup := by decide) (hlt : A.all (fun a => Nat.blt a le.length) = true := by kernel_rfl)
  (hp : (Nz A).all (fun π => Bq l (Lj π le) (r ++ (π.map (fun i => (i, true)) ++ r2)) k) = true := by kernel_rfl) (hd : ∀ i ∈ A, ∀ j ∈ A, D i = D j → i = j := by decide) : Qax P n l le N fr w :=
 Qp6 A r r2 k D T Z J hm hll hA hlt hp ha hd hq fun g0 hJ g w1 ps hg hps hmm => by rw [Qr1 hg hps]; exact h g0 hJ w1 ps hmm
end
end Go.Proofs.YtkmiemlpfkfiiaaDoor
