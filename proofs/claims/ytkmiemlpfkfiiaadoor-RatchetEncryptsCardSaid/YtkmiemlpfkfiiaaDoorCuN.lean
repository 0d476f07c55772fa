/- The curve: the document's numbers, plain. Conditions: none beyond those that each theorem states. -/
import Derived.Test.YtkmiemlpfkfiiaaDoorTab
import Derived.Test.YtkmiemlpfkfiiaaDoorCuM
namespace Go.Proofs.YtkmiemlpfkfiiaaDoor
set_option linter.unusedVariables false
set_option linter.unusedSimpArgs false
theorem V4 {l : List Int} {i : Nat} {x : Int} (h : i < l.length) : (l.set i x).getD i 0 = x := by simp [List.getD_eq_getElem?_getD, h]
theorem Je {l : List Int} {i j : Nat} {x : Int} (h : i ≠ j) : (l.set i x).getD j 0 = l.getD j 0 := by simp [List.getD_eq_getElem?_getD, h]
def Aj (l : List Int) (i : Nat) : List Int :=
 if i < 15 then (l.set i (l.getD i 0 - l.getD i 0 / 65536 * 65536)).set (i + 1) ((l.set i (l.getD i 0 - l.getD i 0 / 65536 * 65536)).getD (i + 1) 0 + l.getD i 0 / 65536)
 else (l.set i (l.getD i 0 - l.getD i 0 / 65536 * 65536)).set 0 ((l.set i (l.getD i 0 - l.getD i 0 / 65536 * 65536)).getD 0 0 + 38 * (l.getD i 0 / 65536))
def Vu (l : List Int) : Nat → List Int
 | 0 => l
 | i + 1 => Aj (Vu l i) i
theorem Qg4 (l : List Int) (i : Nat) : (Aj l i).length = l.length := by unfold Aj; split <;> simp
theorem Px (l : List Int) (i : Nat) : (Vu l i).length = l.length := by
 induction i with
 | zero => rfl
 | succ i ih => rw [Vu, Qg4, ih]
def Q8 (l : List Int) : List Int := Vu l 16
@[simp] theorem Gz (l : List Int) : (Q8 l).length = l.length := Px l 16
def Bd (A B : Int) (l : List Int) : Prop := ∀ j, j < l.length → A ≤ l.getD j 0 ∧ l.getD j 0 ≤ B
theorem crGo_inv {l : List Int} (hl : l.length = 16) (hb : Bd (-1000000000000000) 1000000000000000 l) : ∀ i, i ≤ 15 →
  (∀ j, j < i → 0 ≤ (Vu l i).getD j 0 ∧ (Vu l i).getD j 0 ≤ 65535) ∧ (∀ j, i < j → (Vu l i).getD j 0 = l.getD j 0) ∧ -1000100000000000 ≤ (Vu l i).getD i 0 ∧ (Vu l i).getD i 0 ≤ 1000100000000000 := by
 intro i
 induction i with
 | zero =>
  intro _
  have := hb 0 oM
  exact ⟨by intro j hj; omega, fun j _ => rfl, by simp only [Vu]; omega, by simp only [Vu]; omega⟩
 | succ i ih =>
  intro hi
  obtain ⟨h1, h2, h3, h4⟩ := ih oM
  have hlen := Px l i
  have hs : Vu l (i + 1) = ((Vu l i).set i ((Vu l i).getD i 0 - (Vu l i).getD i 0 / 65536 * 65536)).set (i + 1) (((Vu l i).set i ((Vu l i).getD i 0 - (Vu l i).getD i 0 / 65536 * 65536)).getD (i + 1) 0 + (Vu l i).getD i 0 / 65536) := by
   show Aj _ _ = _
   unfold Aj; rw [if_pos oM]
  have hb1 := hb (i + 1) oM
  have e1 : (Vu l (i + 1)).getD (i + 1) 0 = l.getD (i + 1) 0 + (Vu l i).getD i 0 / 65536 := by
   rw [hs, V4 (by simp; omega), Je oM, h2 (i + 1) oM]
  refine ⟨fun j hj => ?_, fun j hj => ?_, by rw [e1]; omega, by rw [e1]; omega⟩
  ·rw [hs, Je oM]
   rcases Nat.lt_or_ge j i with h | h
   ·rw [Je oM]; exact h1 j h
   have : j = i := by omega
   subst this
   rw [V4 oM]; omega
  rw [hs, Je oM, Je oM]; exact h2 j oM
structure GoodR (l : List Int) : Prop where
 len : l.length = 16
 bd : Bd (-100) 66000 l
def Ee (f : Int → Int → Int) (a b : List Int) : Nat → List Int
 | 0 => a
 | i + 1 => (Ee f a b i).set i (f ((Ee f a b i).getD i 0) (b.getD i 0))
theorem Jw (f : Int → Int → Int) (a b : List Int) (i : Nat) : (Ee f a b i).length = a.length := by
 induction i with
 | zero => rfl
 | succ i ih => rw [Ee, List.length_set, ih]
theorem Qbq (f : Int → Int → Int) (a b : List Int) : ∀ (i j : Nat), (Ee f a b i).getD j 0 = if j < i ∧ j < a.length then f (a.getD j 0) (b.getD j 0) else a.getD j 0 := by
 intro i
 induction i with
 | zero => intro j; simp [Ee]
 | succ i ih =>
  intro j
  rw [Ee]
  by_cases h : i = j
  ·subst h
   by_cases hl : i < a.length
   ·rw [V4 (by rw [Jw]; exact hl), ih, if_neg oM, if_pos ⟨by omega, hl⟩]
   rw [List.set_eq_of_length_le (by rw [Jw]; omega), ih, if_neg oM, if_neg oM]
  rw [Je h, ih]
  by_cases hj : j < i ∧ j < a.length
  ·rw [if_pos hj, if_pos ⟨by omega, hj.2⟩]
  rw [if_neg hj, if_neg oM]
def Y6 (a b : List Int) : List Int := Q8 (Ee (· + ·) a b 16)
def Yb (a b : List Int) : List Int := Q8 (Ee (· - ·) a b 16)
def Qcb (a b : List Int) (i : Nat) (l : List Int) : Nat → List Int
 | 0 => l
 | k + 1 => (Qcb a b i l k).set (i + k) ((Qcb a b i l k).getD (i + k) 0 + a.getD i 0 * b.getD k 0)
def Uj (a b : List Int) : Nat → List Int
 | 0 => List.replicate 31 0
 | i + 1 => Qcb a b i (Uj a b i) 16
theorem Pi (a b : List Int) (i : Nat) (l : List Int) (k : Nat) : (Qcb a b i l k).length = l.length := by
 induction k with
 | zero => rfl
 | succ k ih => rw [Qcb, List.length_set, ih]
theorem D9 (a b : List Int) (i : Nat) : (Uj a b i).length = 31 := by
 induction i with
 | zero => rfl
 | succ i ih => rw [Uj, Pi, ih]
theorem mul_bd {a b : Int} (ha : -100 ≤ a ∧ a ≤ 66000) (hb : -100 ≤ b ∧ b ≤ 66000) : -4400000000 ≤ a * b ∧ a * b ≤ 4400000000 := by
 have h1 : 0 ≤ (a + 100) * (b + 100) := Int.mul_nonneg oM oM
 have h2 : 0 ≤ (66000 - a) * (b + 100) := Int.mul_nonneg oM oM
 have h3 : 0 ≤ (a + 100) * (66000 - b) := Int.mul_nonneg oM oM
 have h4 : 0 ≤ (66000 - a) * (66000 - b) := Int.mul_nonneg oM oM
 have e1 : (a + 100) * (b + 100) = a * b + 100 * a + 100 * b + 10000 := by grind
 have e2 : (66000 - a) * (b + 100) = 66000 * b + 6600000 - a * b - 100 * a := by grind
 have e3 : (a + 100) * (66000 - b) = 66000 * a + 6600000 - a * b - 100 * b := by grind
 omega
theorem Qmm {a b : List Int} (ha : GoodR a) (hb : GoodR b) {i : Nat} (hi : i < 16) {l : List Int} (hll : l.length = 31) {M : Int} (hl : ∀ j, -M ≤ l.getD j 0 ∧ l.getD j 0 ≤ M) : ∀ k, k ≤ 16 → ∀ j, -(M + k * 4400000000) ≤ (Qcb a b i l k).getD j 0 ∧ (Qcb a b i l k).getD j 0 ≤ M + k * 4400000000 := by
 intro k
 induction k with
 | zero => intro _ j; have := hl j; simp only [Qcb]; omega
 | succ k ih =>
  intro hk j
  have h1 := ih oM j
  have h2 := mul_bd (ha.bd i (by rw [ha.len]; exact hi)) (hb.bd k (by rw [hb.len]; omega))
  rw [Qcb]
  by_cases h : i + k = j
  ·subst h
   rw [V4 (by rw [Pi]; omega)]
   have e : ((k + 1 : Nat) : Int) * 4400000000 = k * 4400000000 + 4400000000 := by omega
   rw [e]; omega
  rw [Je h]
  have e : ((k + 1 : Nat) : Int) * 4400000000 = k * 4400000000 + 4400000000 := by omega
  rw [e]; omega
theorem Qcv {a b : List Int} (ha : GoodR a) (hb : GoodR b) : ∀ i : Nat, i ≤ 16 → ∀ j, -((i : Int) * 70400000000) ≤ (Uj a b i).getD j 0 ∧ (Uj a b i).getD j 0 ≤ (i : Int) * 70400000000 := by
 intro i
 induction i with
 | zero =>
  intro _ j
  have : (Uj a b 0).getD j 0 = 0 := by
   simp only [Uj, List.getD_eq_getElem?_getD, List.getElem?_replicate]; split <;> rfl
  rw [this]; omega
 | succ i ih =>
  intro hi j
  have := Qmm ha hb (show i < 16 by omega) (D9 a b i) (M := (i : Int) * 70400000000) (ih oM) 16 oM j
  rw [Uj]; omega
def Hr (t : List Int) (i : Nat) : Int := if i < 15 then t.getD i 0 + 38 * t.getD (i + 16) 0 else t.getD i 0
def Xc (a b : List Int) : List Int := Q8 (Q8 (Yk (Hr (Uj a b 16)) 0 16 16))
def Q9 (u : List (BitVec 8)) : List Int := (Yk (fun i => ((u.getD (2 * i) 0).toNat : Int) + 256 * ((u.getD (2 * i + 1) 0).toNat : Int)) 0 16 16).set 15 ((Yk (fun i => ((u.getD (2 * i) 0).toNat : Int) + 256 * ((u.getD (2 * i + 1) 0).toNat : Int)) 0 16 16).getD 15 0 % 32768)
def Wh (x : List Int) : Nat → List Int
 | 0 => [1, 0, 0, 0, 0, 0, 0, 0, 0, 0, 0, 0, 0, 0, 0, 0]
 | j + 1 => if j = 252 ∨ j = 250 then Xc (Wh x j) (Wh x j) else Xc (Xc (Wh x j) (Wh x j)) x
theorem Qhv {x : List Int} {j : Nat} (h : j = 252 ∨ j = 250) : Xc (Wh x j) (Wh x j) = Wh x (j + 1) := by
 show _ = if j = 252 ∨ j = 250 then _ else _
 rw [if_pos h]
theorem Qli {x : List Int} {j : Nat} (h : ¬ (j = 252 ∨ j = 250)) : Xc (Xc (Wh x j) (Wh x j)) x = Wh x (j + 1) := by
 show _ = if j = 252 ∨ j = 250 then _ else _
 rw [if_neg h]
theorem Qj6 (x : List Int) : Wh x 0 = [1, 0, 0, 0, 0, 0, 0, 0, 0, 0, 0, 0, 0, 0, 0, 0] := rfl
def Jq : List Int → Int → List Int × Int
 | [], c => ([], c)
 | a :: r, c => (((a + c) % 65536) :: (Jq r ((a + c) / 65536)).1, (Jq r ((a + c) / 65536)).2)
theorem Nv : ∀ (l : List Int) (c : Int), (Jq l c).1.length = l.length
 | [], _ => rfl
 | a :: r, c => by simp [Jq, Nv r]
theorem Ri : ∀ (l m : List Int) (c : Int), Jq (l ++ m) c = ((Jq l c).1 ++ (Jq m (Jq l c).2).1, (Jq m (Jq l c).2).2)
 | [], m, c => rfl
 | a :: r, m, c => by simp [Jq, Ri r m]
def Qfj (c : Int) : List Int → List Int
 | [] => []
 | a :: r => (a + c) :: r
theorem Qod {l : List Int} (hl : l.length = 16) : ∀ i, i ≤ 15 → Vu l i = (Jq (l.take i) 0).1 ++ Qfj (Jq (l.take i) 0).2 (l.drop i) := by
 intro i
 induction i with
 | zero =>
  intro _
  simp only [Vu, List.take_zero, Jq, List.nil_append, List.drop_zero]
  cases l with
  | nil => rfl
  | cons a r => simp [Qfj]
 | succ i ih =>
  intro hi
  have hi1 : i < l.length := by omega
  have hi2 : i + 1 < l.length := by omega
  have hd : l.drop i = l[i] :: l.drop (i + 1) := List.drop_eq_getElem_cons hi1
  have hd2 : l.drop (i + 1) = l[i + 1] :: l.drop (i + 2) := List.drop_eq_getElem_cons hi2
  have ht : l.take (i + 1) = l.take i ++ [l[i]] := (List.take_append_getElem hi1).symm
  have hlen : (Jq (l.take i) 0).1.length = i := by rw [Nv, List.length_take]; omega
  show Aj (Vu l i) i = _
  rw [ih oM, hd, hd2, ht, Ri]
  generalize hD : (Jq (l.take i) 0).1 = D at *
  generalize (Jq (l.take i) 0).2 = c at *
  simp only [Qfj, Jq, List.append_nil]
  have g1 : (D ++ (l[i] + c) :: l[i + 1] :: l.drop (i + 2)).getD i 0 = l[i] + c := by simp [List.getD_eq_getElem?_getD, hlen]
  unfold Aj
  rw [if_pos oM, g1]
  have g2 : (D ++ (l[i] + c) :: l[i + 1] :: l.drop (i + 2)).set i (l[i] + c - (l[i] + c) / 65536 * 65536) = D ++ ((l[i] + c) % 65536) :: l[i + 1] :: l.drop (i + 2) := by
   rw [List.set_append_right _ _ oM, hlen, Nat.sub_self, List.set_cons_zero]
   congr 2; omega
  rw [g2]
  have g3 : (D ++ (l[i] + c) % 65536 :: l[i + 1] :: l.drop (i + 2)).getD (i + 1) 0 = l[i + 1] := by
   simp only [List.getD_eq_getElem?_getD]
   rw [List.getElem?_append_right oM, hlen]
   simp [hi2]
  rw [g3, List.set_append_right _ _ oM, hlen, show i + 1 - i = 1 by omega]
  simp only [List.set_cons_succ, List.set_cons_zero, List.append_assoc, List.cons_append, List.nil_append]
theorem Pz {l : List Int} (hl : l.length = 16) : ∃ d0 D, Jq l 0 = (d0 :: D, (Jq l 0).2) ∧ Q8 l = (d0 + 38 * (Jq l 0).2) :: D := by
 have h15 := Qod hl 15 oM
 have hi : 15 < l.length := by omega
 have hd : l.drop 15 = [l[15]] := by
  rw [List.drop_eq_getElem_cons hi, List.drop_eq_nil_of_le oM]
 have ht : l = l.take 15 ++ [l[15]] := by
  conv => lhs; rw [← List.take_append_drop 15 l]
  rw [hd]
 have hlen : (Jq (l.take 15) 0).1.length = 15 := by rw [Nv, List.length_take]; omega
 have hc : Jq l 0 = ((Jq (l.take 15) 0).1 ++ [(l[15] + (Jq (l.take 15) 0).2) % 65536], (l[15] + (Jq (l.take 15) 0).2) / 65536) := by
  conv => lhs; rw [ht, Ri]
  rfl
 have hk : Q8 l = Aj (Vu l 15) 15 := rfl
 rw [hk, h15, hd, hc]
 simp only [Qfj]
 generalize (Jq (l.take 15) 0).1 = D at *
 generalize (Jq (l.take 15) 0).2 = c at *
 have g1 : (D ++ [l[15] + c]).getD 15 0 = l[15] + c := by simp [List.getD_eq_getElem?_getD, hlen]
 have g2 : (D ++ [l[15] + c]).set 15 (l[15] + c - (l[15] + c) / 65536 * 65536) = D ++ [(l[15] + c) % 65536] := by
  rw [List.set_append_right _ _ oM, hlen]
  simp; omega
 unfold Aj
 rw [if_neg oM, g1, g2]
 cases D with
 | nil => simp at hlen
 | cons d0 D => exact ⟨d0, D ++ [(l[15] + c) % 65536], rfl, by simp⟩
theorem A7 : ∀ (l : List Int) (c : Int), ∀ d ∈ (Jq l c).1, 0 ≤ d ∧ d ≤ 65535
 | [], _, d, h => by simp [Jq] at h
 | a :: r, c, d, h => by
  simp only [Jq, List.mem_cons] at h
  rcases h with rfl | h
  ·omega
  exact A7 r _ d h
theorem Tv {lo hi A B : Int} (h1 : 65536 * lo ≤ A + lo) (h2 : B + hi < 65536 * (hi + 1)) : ∀ (l : List Int) (c : Int), (∀ a ∈ l, A ≤ a ∧ a ≤ B) → lo ≤ c → c ≤ hi → lo ≤ (Jq l c).2 ∧ (Jq l c).2 ≤ hi
 | [], c, _, h3, h4 => ⟨h3, h4⟩
 | a :: r, c, h, h3, h4 => by
  have := h a (by simp)
  exact Tv h1 h2 r ((a + c) / 65536) (fun b hb => h b (by simp [hb])) oM oM
theorem Qmh {A B : Int} {l : List Int} (h : Bd A B l) : ∀ a ∈ l, A ≤ a ∧ a ≤ B := by
 intro a ha
 obtain ⟨i, hi, rfl⟩ := List.getElem_of_mem ha
 have := h i hi
 simpa [List.getD_eq_getElem?_getD, hi] using this
theorem Nq {A B : Int} {l : List Int} (h : ∀ a ∈ l, A ≤ a ∧ a ≤ B) : Bd A B l := by
 intro j hj
 have := h l[j] (by simp)
 simpa [List.getD_eq_getElem?_getD, hj] using this
theorem Qbp {lo hi A B : Int} {l : List Int} (hl : l.length = 16) (hb : Bd A B l) (h1 : 65536 * lo ≤ A + lo) (h2 : B + hi < 65536 * (hi + 1)) (h3 : lo ≤ 0) (h4 : 0 ≤ hi) :
  ∃ d0 D, Q8 l = d0 :: D ∧ D.length = 15 ∧ 38 * lo ≤ d0 ∧ d0 ≤ 65535 + 38 * hi ∧ ∀ d ∈ D, 0 ≤ d ∧ d ≤ 65535 := by
 obtain ⟨d0, D, e1, e2⟩ := Pz hl
 have hd := A7 l 0
 have ho := Tv h1 h2 l 0 (Qmh hb) h3 h4
 have hlen := Nv l 0
 rw [e1] at hd hlen
 have := hd d0 (by simp)
 refine ⟨_, D, e2, by simp at hlen; omega, by omega, by omega, fun d h => hd d (by simp [h])⟩
theorem Qa1 {lo hi A B : Int} {l : List Int} (hl : l.length = 16) (hb : Bd A B l) (h1 : 65536 * lo ≤ A + lo) (h2 : B + hi < 65536 * (hi + 1)) (h3 : lo ≤ 0) (h4 : 0 ≤ hi) (h5 : -2 ≤ lo) (h6 : hi ≤ 2) : GoodR (Q8 l) := by
 obtain ⟨d0, D, e, hD, k1, k2, k3⟩ := Qbp hl hb h1 h2 h3 h4
 refine ⟨by rw [Gz]; exact hl, Nq fun a ha => ?_⟩
 rw [e] at ha
 rcases List.mem_cons.1 ha with rfl | ha
 ·omega
 have := k3 a ha; omega
theorem Qgr {f : Int → Int → Int} {a b : List Int} {A B : Int} (ha : GoodR a) (hb : GoodR b) (h : ∀ x y, -100 ≤ x ∧ x ≤ 66000 → -100 ≤ y ∧ y ≤ 66000 → A ≤ f x y ∧ f x y ≤ B) : Bd A B (Ee f a b 16) := by
 intro j hj
 rw [Jw, ha.len] at hj
 rw [Qbq, if_pos ⟨hj, by rw [ha.len]; exact hj⟩]
 exact h _ _ (ha.bd j (by rw [ha.len]; exact hj)) (hb.bd j (by rw [hb.len]; exact hj))
theorem Zu {a b : List Int} (ha : GoodR a) (hb : GoodR b) : GoodR (Y6 a b) :=
 Qa1 (lo := -1) (hi := 2) (by rw [Jw, ha.len]) (Qgr (A := -200) (B := 132000) ha hb (by intro x y hx hy; show -200 ≤ x + y ∧ x + y ≤ 132000; omega)) oM oM oM oM oM oM
theorem Zn {a b : List Int} (ha : GoodR a) (hb : GoodR b) : GoodR (Yb a b) :=
 Qa1 (lo := -2) (hi := 1) (by rw [Jw, ha.len]) (Qgr (A := -66100) (B := 66100) ha hb (by intro x y hx hy; show -66100 ≤ x - y ∧ x - y ≤ 66100; omega)) oM oM oM oM oM oM
theorem Qit {a b : List Int} (ha : GoodR a) (hb : GoodR b) : Bd (-100000000000000) 100000000000000 (Yk (Hr (Uj a b 16)) 0 16 16) := by
 intro j hj
 rw [Jl _ _ _ _ (Nat.le_refl _)] at hj
 have e : (Yk (Hr (Uj a b 16)) 0 16 16).getD j 0 = Hr (Uj a b 16) j := by
  rw [Ej]; simp [List.getD_eq_getElem?_getD, hj]
 rw [e]
 have h1 := Qcv ha hb 16 oM j
 have h2 := Qcv ha hb 16 oM (j + 16)
 unfold Hr; split <;> omega
theorem H5 (a c : Int) (r : List Int) : (Jq (a :: r) c).2 = (Jq r ((a + c) / 65536)).2 := rfl
theorem Qk1 {a c K M : Int} (h : 0 ≤ a ∧ a ≤ 65535) (h1 : -K ≤ c) (h2 : c ≤ K) (hM : K + 65536 ≤ 65536 * M) : -M ≤ (a + c) / 65536 ∧ (a + c) / 65536 ≤ M := by omega
theorem Qk2 {d0 : Int} {D : List Int} (hD : D.length = 15) (h1 : -100000000000000000 ≤ d0) (h2 : d0 ≤ 100000000000000000) (h3 : ∀ d ∈ D, 0 ≤ d ∧ d ≤ 65535) : -1 ≤ (Jq (d0 :: D) 0).2 ∧ (Jq (d0 :: D) 0).2 ≤ 1 := by
 match D, hD, h3 with
 | d1 :: d2 :: d3 :: d4 :: r, hD, h3 =>
  rw [H5, H5, H5, H5, H5]
  have c0 : -2000000000000 ≤ (d0 + 0) / 65536 ∧ (d0 + 0) / 65536 ≤ 2000000000000 := by omega
  have c1 := Qk1 (M := 40000000) (h3 d1 (by simp)) c0.1 c0.2 (by decide)
  have c2 := Qk1 (M := 1000) (h3 d2 (by simp)) c1.1 c1.2 (by decide)
  have c3 := Qk1 (M := 2) (h3 d3 (by simp)) c2.1 c2.2 (by decide)
  have i4 := h3 d4 (by simp)
  have c4 : -1 ≤ (d4 + (d3 + (d2 + (d1 + (d0 + 0) / 65536) / 65536) / 65536) / 65536) / 65536 ∧ (d4 + (d3 + (d2 + (d1 + (d0 + 0) / 65536) / 65536) / 65536) / 65536) / 65536 ≤ 1 := by
   obtain ⟨k1, k2⟩ := c3
   clear c0 c1 c2
   generalize (d3 + (d2 + (d1 + (d0 + 0) / 65536) / 65536) / 65536) / 65536 = x at k1 k2 ⊢
   omega
  exact Tv (lo := -1) (hi := 1) (A := 0) (B := 65535) (by decide) (by decide) r _ (fun a ha => h3 a (by simp [ha])) c4.1 c4.2
theorem Qiz {d0 : Int} {D : List Int} (hD : D.length = 15) (h1 : -100000000000000000 ≤ d0) (h2 : d0 ≤ 100000000000000000) (h3 : ∀ d ∈ D, 0 ≤ d ∧ d ≤ 65535) : GoodR (Q8 (d0 :: D)) := by
 have ho := Qk2 hD h1 h2 h3
 obtain ⟨e0, E, q1, q2⟩ := Pz (l := d0 :: D) (by simp [hD])
 have hd := A7 (d0 :: D) 0
 rw [q1] at hd
 have := hd e0 (by simp)
 refine ⟨by rw [Gz]; simp [hD], Nq fun a ha => ?_⟩
 rw [q2] at ha
 rcases List.mem_cons.1 ha with h | ha
 ·omega
 have := hd a (by simp [ha]); omega
theorem Zj {a b : List Int} (ha : GoodR a) (hb : GoodR b) : GoodR (Xc a b) := by
 obtain ⟨d0, D, e, hD, k1, k2, k3⟩ := Qbp (lo := -100000000000000) (hi := 100000000000000) (Jl _ _ _ _ (Nat.le_refl _)) (Qit ha hb) oM oM oM oM
 unfold Xc
 rw [e]
 exact Qiz hD oM oM k3
theorem bd_carry {a b : List Int} (ha : GoodR a) (hb : GoodR b) : Bd (-1000000000000000) 1000000000000000 (Yk (Hr (Uj a b 16)) 0 16 16) := fun j hj => by have := Qit ha hb j hj; omega
theorem Qov {a b : List Int} (ha : GoodR a) (hb : GoodR b) : Bd (-1000000000000000) 1000000000000000 (Q8 (Yk (Hr (Uj a b 16)) 0 16 16)) := by
 obtain ⟨d0, D, e, hD, k1, k2, k3⟩ := Qbp (lo := -2000000000) (hi := 2000000000) (Jl _ _ _ _ (Nat.le_refl _)) (Qit ha hb) oM oM oM oM
 rw [e]
 refine Nq fun x hx => ?_
 rcases List.mem_cons.1 hx with rfl | hx
 ·omega
 have := k3 x hx; omega
theorem GoodR.wide {l : List Int} (h : GoodR l) : Bd (-1000000000000000) 1000000000000000 l := fun j hj => by have := h.bd j hj; omega
theorem Qgq {f : Int → Int → Int} {a b : List Int} (ha : GoodR a) (hb : GoodR b) (h : ∀ x y, -100 ≤ x ∧ x ≤ 66000 → -100 ≤ y ∧ y ≤ 66000 → -1000000000000000 ≤ f x y ∧ f x y ≤ 1000000000000000) : Bd (-1000000000000000) 1000000000000000 (Ee f a b 16) := Qgr ha hb h
theorem Qbk : GoodR [1, 0, 0, 0, 0, 0, 0, 0, 0, 0, 0, 0, 0, 0, 0, 0] := ⟨rfl, Nq (by decide)⟩
theorem Cc : GoodR [56129, 1, 0, 0, 0, 0, 0, 0, 0, 0, 0, 0, 0, 0, 0, 0] := ⟨rfl, Nq (by decide)⟩
theorem Ah {x : List Int} (h : GoodR x) : ∀ j, GoodR (Wh x j)
 | 0 => Qbk
 | j + 1 => by
  unfold Wh; split
  ·exact Zj (Ah h j) (Ah h j)
  exact Zj (Zj (Ah h j) (Ah h j)) h
theorem Qms (u : List (BitVec 8)) : 0 ≤ (Yk (fun i => ((u.getD (2 * i) 0).toNat : Int) + 256 * ((u.getD (2 * i + 1) 0).toNat : Int)) 0 16 16).getD 15 0 ∧ (Yk (fun i => ((u.getD (2 * i) 0).toNat : Int) + 256 * ((u.getD (2 * i + 1) 0).toNat : Int)) 0 16 16).getD 15 0 ≤ 65535 := by
 have h1 := (u.getD (2 * 15) 0).isLt
 have h2 := (u.getD (2 * 15 + 1) 0).isLt
 have e : (Yk (fun i => ((u.getD (2 * i) 0).toNat : Int) + 256 * ((u.getD (2 * i + 1) 0).toNat : Int)) 0 16 16).getD 15 0 = ((u.getD (2 * 15) 0).toNat : Int) + 256 * ((u.getD (2 * 15 + 1) 0).toNat : Int) := rfl
 rw [e]; omega
theorem Qkw (x : Int) : (((BitVec.ofInt 64 x).toNat &&& (1 : Int).toNat : Nat) : Int) = x % 2 := by
 have h : (BitVec.ofInt 64 x).toNat &&& (1 : Int).toNat = (BitVec.ofInt 64 x).toNat % 2 := Nat.and_two_pow_sub_one_eq_mod _ 1
 rw [h, BitVec.toNat_ofInt]; omega
theorem Qds (x : Int) : (((BitVec.ofInt 64 x).toNat &&& (65535 : Int).toNat : Nat) : Int) = x % 65536 := by
 have h : (BitVec.ofInt 64 x).toNat &&& (65535 : Int).toNat = (BitVec.ofInt 64 x).toNat % 65536 := Nat.and_two_pow_sub_one_eq_mod _ 16
 rw [h, BitVec.toNat_ofInt]; omega
theorem E5 {l : List Int} (h : GoodR l) : GoodR (Q8 l) :=
 Qa1 (lo := -1) (hi := 1) h.len h.bd oM oM oM oM oM oM
def Rz (a m : List Int) (j : Nat) : List Int :=
 (m.set (j + 1) (a.getD (j + 1) 0 - (if j = 14 then 32767 else 65535) - m.getD j 0 / 65536 % 2)).set j ((m.set (j + 1) (a.getD (j + 1) 0 - (if j = 14 then 32767 else 65535) - m.getD j 0 / 65536 % 2)).getD j 0 % 65536)
def mG (a : List Int) : Nat → List Int
 | 0 => (List.replicate 16 0).set 0 (a.getD 0 0 - 65517)
 | j + 1 => Rz a (mG a j) j
theorem mG_zero (a : List Int) : mG a 0 = (List.replicate 16 0).set 0 (a.getD 0 0 - 65517) := rfl
theorem F6 (a : List Int) (j : Nat) : (mG a j).length = 16 := by
 induction j with
 | zero => rfl
 | succ j ih => simp [mG, Rz, ih]
theorem Qld {a : List Int} (ha : GoodR a) : ∀ j : Nat, j ≤ 15 → (∀ i, i < j → 0 ≤ (mG a j).getD i 0 ∧ (mG a j).getD i 0 ≤ 65535) ∧ -100000 ≤ (mG a j).getD j 0 ∧ (mG a j).getD j 0 ≤ 66000 := by
 intro j
 induction j with
 | zero =>
  intro _
  have h := ha.bd 0 (by rw [ha.len]; omega)
  have e : (mG a 0).getD 0 0 = a.getD 0 0 - 65517 := rfl
  exact ⟨fun i hi => by omega, by rw [e]; omega, by rw [e]; omega⟩
 | succ j ih =>
  intro hj
  obtain ⟨h1, h2, h3⟩ := ih oM
  have h := ha.bd (j + 1) (by rw [ha.len]; omega)
  have hl := F6 a j
  have e0 : ((mG a j).set (j + 1) (a.getD (j + 1) 0 - (if j = 14 then 32767 else 65535) - (mG a j).getD j 0 / 65536 % 2)).getD j 0 = (mG a j).getD j 0 := Je oM
  have e1 : (mG a (j + 1)).getD (j + 1) 0 = a.getD (j + 1) 0 - (if j = 14 then 32767 else 65535) - (mG a j).getD j 0 / 65536 % 2 := by
   show (Rz _ _ _).getD _ _ = _
   unfold Rz
   rw [Je oM, V4 oM]
  refine ⟨fun i hi => ?_, by rw [e1]; split <;> omega, by rw [e1]; split <;> omega⟩
  show 0 ≤ (Rz _ _ _).getD _ _ ∧ (Rz _ _ _).getD _ _ ≤ _
  unfold Rz
  by_cases hij : j = i
  ·subst hij
   rw [V4 (by simp; omega)]; omega
  rw [Je hij, Je oM]; exact h1 i oM
def Qez (a : List Int) : List Int := if 0 ≤ (mG a 15).getD 15 0 then mG a 15 else a
theorem Qn0 {a : List Int} (ha : GoodR a) : GoodR (Qez a) := by
 unfold Qez; split
 ·rename_i h
  obtain ⟨h1, h2, h3⟩ := Qld ha 15 oM
  refine ⟨F6 a 15, fun j hj => ?_⟩
  rw [F6] at hj
  rcases Nat.lt_or_ge j 15 with hlt | hge
  ·have := h1 j hlt; omega
  have : j = 15 := by omega
  subst this; omega
 exact ha
def Kr (a : List Int) : Nat → List Int
 | 0 => a
 | n + 1 => Qez (Kr a n)
theorem Qno (a : List Int) : Kr a 0 = a := rfl
theorem Qhw {a : List Int} (ha : GoodR a) : ∀ n, GoodR (Kr a n)
 | 0 => ha
 | n + 1 => Qn0 (Qhw ha n)
def Qew (a : List Int) : Nat → List (BitVec 8)
 | 0 => List.replicate 32 0
 | i + 1 => ((Qew a i).set (2 * i) (BitVec.ofInt 8 (a.getD i 0))).set (2 * i + 1) (BitVec.ofInt 8 (a.getD i 0 / 256))
theorem Qnc (a : List Int) : Qew a 0 = List.replicate 32 0 := rfl
theorem Qhd (a : List Int) (i : Nat) : Qew a (i + 1) = ((Qew a i).set (2 * i) (BitVec.ofInt 8 (a.getD i 0))).set (2 * i + 1) (BitVec.ofInt 8 (a.getD i 0 / 256)) := rfl
theorem D8 (a : List Int) (i : Nat) : (Qew a i).length = 32 := by
 induction i with
 | zero => rfl
 | succ i ih => rw [Qew, List.length_set, List.length_set, ih]
def Qab (a : List Int) : List (BitVec 8) := Qew (Kr (Q8 (Q8 (Q8 a))) 2) 16
@[simp] theorem Qha (a : List Int) : (Qab a).length = 32 := D8 _ _
theorem Qbd (u : List (BitVec 8)) : (Q9 u).length = 16 := by unfold Q9; rw [List.length_set]; exact Jl _ _ _ _ (Nat.le_refl _)
theorem Tt (u : List (BitVec 8)) : GoodR (Q9 u) := by
 refine ⟨Qbd u, fun j hj => ?_⟩
 rw [Qbd] at hj
 unfold Q9
 by_cases h : 15 = j
 ·subst h
  rw [V4 (by rw [Jl _ _ _ _ (Nat.le_refl _)]; omega)]
  have := Qms u; omega
 rw [Je h, Ej]
 have h1 := (u.getD (2 * j) 0).isLt
 have h2 := (u.getD (2 * j + 1) 0).isLt
 have e : ((List.range 16).map fun i => ((u.getD (2 * i) 0).toNat : Int) + 256 * ((u.getD (2 * i + 1) 0).toNat : Int)).getD j 0 = ((u.getD (2 * j) 0).toNat : Int) + 256 * ((u.getD (2 * j + 1) 0).toNat : Int) := by
  simp [List.getD_eq_getElem?_getD, hj]
 rw [e]; omega
end Go.Proofs.YtkmiemlpfkfiiaaDoor
