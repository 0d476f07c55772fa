/- The curve: the document's numbers, plain. Conditions: none beyond those that each theorem states. -/
import Derived.Test.YtmiagmbgfhakgaaTab
import Derived.Test.YtmiagmbgfhakgaaCuM
namespace Go.Proofs.Ytmiagmbgfhakgaa
set_option linter.unusedVariables false
set_option linter.unusedSimpArgs false
/-! The document's numbers: sixteen limbs, as they are reckoned with. -/
theorem getD_set_eq {l : List Int} {i : Nat} {x : Int} (h : i < l.length) : (l.set i x).getD i 0 = x := by simp [List.getD_eq_getElem?_getD, h]
theorem getD_set_ne {l : List Int} {i j : Nat} {x : Int} (h : i ≠ j) : (l.set i x).getD j 0 = l.getD j 0 := by simp [List.getD_eq_getElem?_getD, h]
def crStep (l : List Int) (i : Nat) : List Int :=
  if i < 15 then (l.set i (l.getD i 0 - l.getD i 0 / 65536 * 65536)).set (i + 1) ((l.set i (l.getD i 0 - l.getD i 0 / 65536 * 65536)).getD (i + 1) 0 + l.getD i 0 / 65536)
  else (l.set i (l.getD i 0 - l.getD i 0 / 65536 * 65536)).set 0 ((l.set i (l.getD i 0 - l.getD i 0 / 65536 * 65536)).getD 0 0 + 38 * (l.getD i 0 / 65536))
def crGo (l : List Int) : Nat → List Int
  | 0 => l
  | i + 1 => crStep (crGo l i) i
theorem crStep_length (l : List Int) (i : Nat) : (crStep l i).length = l.length := by unfold crStep; split <;> simp
theorem crGo_length (l : List Int) (i : Nat) : (crGo l i).length = l.length := by
  induction i with
  | zero => rfl
  | succ i ih => rw [crGo, crStep_length, ih]
def carryR (l : List Int) : List Int := crGo l 16
@[simp] theorem carryR_length (l : List Int) : (carryR l).length = l.length := crGo_length l 16
/-- All limbs lie between. -/
def Bd (A B : Int) (l : List Int) : Prop := ∀ j, j < l.length → A ≤ l.getD j 0 ∧ l.getD j 0 ≤ B
theorem crGo_inv {l : List Int} (hl : l.length = 16) (hb : Bd (-1000000000000000) 1000000000000000 l) : ∀ i, i ≤ 15 →
    (∀ j, j < i → 0 ≤ (crGo l i).getD j 0 ∧ (crGo l i).getD j 0 ≤ 65535) ∧ (∀ j, i < j → (crGo l i).getD j 0 = l.getD j 0) ∧ -1000100000000000 ≤ (crGo l i).getD i 0 ∧ (crGo l i).getD i 0 ≤ 1000100000000000 := by
  intro i
  induction i with
  | zero =>
    intro _
    have := hb 0 oM
    exact ⟨by intro j hj; omega, fun j _ => rfl, by simp only [crGo]; omega, by simp only [crGo]; omega⟩
  | succ i ih =>
    intro hi
    obtain ⟨h1, h2, h3, h4⟩ := ih oM
    have hlen := crGo_length l i
    have hs : crGo l (i + 1) = ((crGo l i).set i ((crGo l i).getD i 0 - (crGo l i).getD i 0 / 65536 * 65536)).set (i + 1) (((crGo l i).set i ((crGo l i).getD i 0 - (crGo l i).getD i 0 / 65536 * 65536)).getD (i + 1) 0 + (crGo l i).getD i 0 / 65536) := by
      show crStep _ _ = _
      unfold crStep; rw [if_pos oM]
    have hb1 := hb (i + 1) oM
    have e1 : (crGo l (i + 1)).getD (i + 1) 0 = l.getD (i + 1) 0 + (crGo l i).getD i 0 / 65536 := by
      rw [hs, getD_set_eq (by simp; omega), getD_set_ne oM, h2 (i + 1) oM]
    refine ⟨fun j hj => ?_, fun j hj => ?_, by rw [e1]; omega, by rw [e1]; omega⟩
    · rw [hs, getD_set_ne oM]
      rcases Nat.lt_or_ge j i with h | h
      · rw [getD_set_ne oM]; exact h1 j h
      · have : j = i := by omega
        subst this
        rw [getD_set_eq oM]; omega
    · rw [hs, getD_set_ne oM, getD_set_ne oM]; exact h2 j oM
/-- A number whose limbs are small. -/
structure GoodR (l : List Int) : Prop where
  len : l.length = 16
  bd : Bd (-100) 66000 l
def addGo (f : Int → Int → Int) (a b : List Int) : Nat → List Int
  | 0 => a
  | i + 1 => (addGo f a b i).set i (f ((addGo f a b i).getD i 0) (b.getD i 0))
theorem addGo_length (f : Int → Int → Int) (a b : List Int) (i : Nat) : (addGo f a b i).length = a.length := by
  induction i with
  | zero => rfl
  | succ i ih => rw [addGo, List.length_set, ih]
theorem addGo_get (f : Int → Int → Int) (a b : List Int) : ∀ (i j : Nat), (addGo f a b i).getD j 0 = if j < i ∧ j < a.length then f (a.getD j 0) (b.getD j 0) else a.getD j 0 := by
  intro i
  induction i with
  | zero => intro j; simp [addGo]
  | succ i ih =>
    intro j
    rw [addGo]
    by_cases h : i = j
    · subst h
      by_cases hl : i < a.length
      · rw [getD_set_eq (by rw [addGo_length]; exact hl), ih, if_neg oM, if_pos ⟨by omega, hl⟩]
      · rw [List.set_eq_of_length_le (by rw [addGo_length]; omega), ih, if_neg oM, if_neg oM]
    · rw [getD_set_ne h, ih]
      by_cases hj : j < i ∧ j < a.length
      · rw [if_pos hj, if_pos ⟨by omega, hj.2⟩]
      · rw [if_neg hj, if_neg oM]
def AddR (a b : List Int) : List Int := carryR (addGo (· + ·) a b 16)
def LessR (a b : List Int) : List Int := carryR (addGo (· - ·) a b 16)
/-- A product's sums. -/
def tRow (a b : List Int) (i : Nat) (l : List Int) : Nat → List Int
  | 0 => l
  | k + 1 => (tRow a b i l k).set (i + k) ((tRow a b i l k).getD (i + k) 0 + a.getD i 0 * b.getD k 0)
def tAll (a b : List Int) : Nat → List Int
  | 0 => List.replicate 31 0
  | i + 1 => tRow a b i (tAll a b i) 16
theorem tRow_length (a b : List Int) (i : Nat) (l : List Int) (k : Nat) : (tRow a b i l k).length = l.length := by
  induction k with
  | zero => rfl
  | succ k ih => rw [tRow, List.length_set, ih]
theorem tAll_length (a b : List Int) (i : Nat) : (tAll a b i).length = 31 := by
  induction i with
  | zero => rfl
  | succ i ih => rw [tAll, tRow_length, ih]
theorem mul_bd {a b : Int} (ha : -100 ≤ a ∧ a ≤ 66000) (hb : -100 ≤ b ∧ b ≤ 66000) : -4400000000 ≤ a * b ∧ a * b ≤ 4400000000 := by
  have h1 : 0 ≤ (a + 100) * (b + 100) := Int.mul_nonneg oM oM
  have h2 : 0 ≤ (66000 - a) * (b + 100) := Int.mul_nonneg oM oM
  have h3 : 0 ≤ (a + 100) * (66000 - b) := Int.mul_nonneg oM oM
  have h4 : 0 ≤ (66000 - a) * (66000 - b) := Int.mul_nonneg oM oM
  have e1 : (a + 100) * (b + 100) = a * b + 100 * a + 100 * b + 10000 := by grind
  have e2 : (66000 - a) * (b + 100) = 66000 * b + 6600000 - a * b - 100 * a := by grind
  have e3 : (a + 100) * (66000 - b) = 66000 * a + 6600000 - a * b - 100 * b := by grind
  omega
theorem tRow_bd {a b : List Int} (ha : GoodR a) (hb : GoodR b) {i : Nat} (hi : i < 16) {l : List Int} (hll : l.length = 31) {M : Int} (hl : ∀ j, -M ≤ l.getD j 0 ∧ l.getD j 0 ≤ M) : ∀ k, k ≤ 16 → ∀ j, -(M + k * 4400000000) ≤ (tRow a b i l k).getD j 0 ∧ (tRow a b i l k).getD j 0 ≤ M + k * 4400000000 := by
  intro k
  induction k with
  | zero => intro _ j; have := hl j; simp only [tRow]; omega
  | succ k ih =>
    intro hk j
    have h1 := ih oM j
    have h2 := mul_bd (ha.bd i (by rw [ha.len]; exact hi)) (hb.bd k (by rw [hb.len]; omega))
    rw [tRow]
    by_cases h : i + k = j
    · subst h
      rw [getD_set_eq (by rw [tRow_length]; omega)]
      have e : ((k + 1 : Nat) : Int) * 4400000000 = k * 4400000000 + 4400000000 := by omega
      rw [e]; omega
    · rw [getD_set_ne h]
      have e : ((k + 1 : Nat) : Int) * 4400000000 = k * 4400000000 + 4400000000 := by omega
      rw [e]; omega
theorem tAll_bd {a b : List Int} (ha : GoodR a) (hb : GoodR b) : ∀ i : Nat, i ≤ 16 → ∀ j, -((i : Int) * 70400000000) ≤ (tAll a b i).getD j 0 ∧ (tAll a b i).getD j 0 ≤ (i : Int) * 70400000000 := by
  intro i
  induction i with
  | zero =>
    intro _ j
    have : (tAll a b 0).getD j 0 = 0 := by
      simp only [tAll, List.getD_eq_getElem?_getD, List.getElem?_replicate]; split <;> rfl
    rw [this]; omega
  | succ i ih =>
    intro hi j
    have := tRow_bd ha hb (show i < 16 by omega) (tAll_length a b i) (M := (i : Int) * 70400000000) (ih oM) 16 oM j
    rw [tAll]; omega
def outR (t : List Int) (i : Nat) : Int := if i < 15 then t.getD i 0 + 38 * t.getD (i + 16) 0 else t.getD i 0
def TimesR (a b : List Int) : List Int := carryR (carryR (filled (outR (tAll a b 16)) 0 16 16))
def ReadR (u : List (BitVec 8)) : List Int := (filled (fun i => ((u.getD (2 * i) 0).toNat : Int) + 256 * ((u.getD (2 * i + 1) 0).toNat : Int)) 0 16 16).set 15 ((filled (fun i => ((u.getD (2 * i) 0).toNat : Int) + 256 * ((u.getD (2 * i + 1) 0).toNat : Int)) 0 16 16).getD 15 0 % 32768)
def invRGo (x : List Int) : Nat → List Int
  | 0 => [1, 0, 0, 0, 0, 0, 0, 0, 0, 0, 0, 0, 0, 0, 0, 0]
  | j + 1 => if j = 252 ∨ j = 250 then TimesR (invRGo x j) (invRGo x j) else TimesR (TimesR (invRGo x j) (invRGo x j)) x
theorem invRGo_sq {x : List Int} {j : Nat} (h : j = 252 ∨ j = 250) : TimesR (invRGo x j) (invRGo x j) = invRGo x (j + 1) := by
  show _ = if j = 252 ∨ j = 250 then _ else _
  rw [if_pos h]
theorem invRGo_mul {x : List Int} {j : Nat} (h : ¬ (j = 252 ∨ j = 250)) : TimesR (TimesR (invRGo x j) (invRGo x j)) x = invRGo x (j + 1) := by
  show _ = if j = 252 ∨ j = 250 then _ else _
  rw [if_neg h]
theorem invRGo_zero (x : List Int) : invRGo x 0 = [1, 0, 0, 0, 0, 0, 0, 0, 0, 0, 0, 0, 0, 0, 0, 0] := rfl
/-! What stays small. -/
def crList : List Int → Int → List Int × Int
  | [], c => ([], c)
  | a :: r, c => (((a + c) % 65536) :: (crList r ((a + c) / 65536)).1, (crList r ((a + c) / 65536)).2)
theorem crList_len : ∀ (l : List Int) (c : Int), (crList l c).1.length = l.length
  | [], _ => rfl
  | a :: r, c => by simp [crList, crList_len r]
theorem crList_append : ∀ (l m : List Int) (c : Int), crList (l ++ m) c = ((crList l c).1 ++ (crList m (crList l c).2).1, (crList m (crList l c).2).2)
  | [], m, c => rfl
  | a :: r, m, c => by simp [crList, crList_append r m]
def addHead (c : Int) : List Int → List Int
  | [] => []
  | a :: r => (a + c) :: r
theorem crGo_form {l : List Int} (hl : l.length = 16) : ∀ i, i ≤ 15 → crGo l i = (crList (l.take i) 0).1 ++ addHead (crList (l.take i) 0).2 (l.drop i) := by
  intro i
  induction i with
  | zero =>
    intro _
    simp only [crGo, List.take_zero, crList, List.nil_append, List.drop_zero]
    cases l with
    | nil => rfl
    | cons a r => simp [addHead]
  | succ i ih =>
    intro hi
    have hi1 : i < l.length := by omega
    have hi2 : i + 1 < l.length := by omega
    have hd : l.drop i = l[i] :: l.drop (i + 1) := List.drop_eq_getElem_cons hi1
    have hd2 : l.drop (i + 1) = l[i + 1] :: l.drop (i + 2) := List.drop_eq_getElem_cons hi2
    have ht : l.take (i + 1) = l.take i ++ [l[i]] := (List.take_append_getElem hi1).symm
    have hlen : (crList (l.take i) 0).1.length = i := by rw [crList_len, List.length_take]; omega
    show crStep (crGo l i) i = _
    rw [ih oM, hd, hd2, ht, crList_append]
    generalize hD : (crList (l.take i) 0).1 = D at *
    generalize (crList (l.take i) 0).2 = c at *
    simp only [addHead, crList, List.append_nil]
    have g1 : (D ++ (l[i] + c) :: l[i + 1] :: l.drop (i + 2)).getD i 0 = l[i] + c := by simp [List.getD_eq_getElem?_getD, hlen]
    unfold crStep
    rw [if_pos oM, g1]
    have g2 : (D ++ (l[i] + c) :: l[i + 1] :: l.drop (i + 2)).set i (l[i] + c - (l[i] + c) / 65536 * 65536) = D ++ ((l[i] + c) % 65536) :: l[i + 1] :: l.drop (i + 2) := by
      rw [List.set_append_right _ _ oM, hlen, Nat.sub_self, List.set_cons_zero]
      congr 2; omega
    rw [g2]
    have g3 : (D ++ (l[i] + c) % 65536 :: l[i + 1] :: l.drop (i + 2)).getD (i + 1) 0 = l[i + 1] := by
      simp only [List.getD_eq_getElem?_getD]
      rw [List.getElem?_append_right oM, hlen]
      simp [hi2]
    rw [g3, List.set_append_right _ _ oM, hlen, show i + 1 - i = 1 by omega]
    simp only [List.set_cons_succ, List.set_cons_zero, List.append_assoc, List.cons_append, List.nil_append]
theorem carryR_form {l : List Int} (hl : l.length = 16) : ∃ d0 D, crList l 0 = (d0 :: D, (crList l 0).2) ∧ carryR l = (d0 + 38 * (crList l 0).2) :: D := by
  have h15 := crGo_form hl 15 oM
  have hi : 15 < l.length := by omega
  have hd : l.drop 15 = [l[15]] := by
    rw [List.drop_eq_getElem_cons hi, List.drop_eq_nil_of_le oM]
  have ht : l = l.take 15 ++ [l[15]] := by
    conv => lhs; rw [← List.take_append_drop 15 l]
    rw [hd]
  have hlen : (crList (l.take 15) 0).1.length = 15 := by rw [crList_len, List.length_take]; omega
  have hc : crList l 0 = ((crList (l.take 15) 0).1 ++ [(l[15] + (crList (l.take 15) 0).2) % 65536], (l[15] + (crList (l.take 15) 0).2) / 65536) := by
    conv => lhs; rw [ht, crList_append]
    rfl
  have hk : carryR l = crStep (crGo l 15) 15 := rfl
  rw [hk, h15, hd, hc]
  simp only [addHead]
  generalize (crList (l.take 15) 0).1 = D at *
  generalize (crList (l.take 15) 0).2 = c at *
  have g1 : (D ++ [l[15] + c]).getD 15 0 = l[15] + c := by simp [List.getD_eq_getElem?_getD, hlen]
  have g2 : (D ++ [l[15] + c]).set 15 (l[15] + c - (l[15] + c) / 65536 * 65536) = D ++ [(l[15] + c) % 65536] := by
    rw [List.set_append_right _ _ oM, hlen]
    simp; omega
  unfold crStep
  rw [if_neg oM, g1, g2]
  cases D with
  | nil => simp at hlen
  | cons d0 D => exact ⟨d0, D ++ [(l[15] + c) % 65536], rfl, by simp⟩
theorem crList_digits : ∀ (l : List Int) (c : Int), ∀ d ∈ (crList l c).1, 0 ≤ d ∧ d ≤ 65535
  | [], _, d, h => by simp [crList] at h
  | a :: r, c, d, h => by
    simp only [crList, List.mem_cons] at h
    rcases h with rfl | h
    · omega
    · exact crList_digits r _ d h
theorem crList_out {lo hi A B : Int} (h1 : 65536 * lo ≤ A + lo) (h2 : B + hi < 65536 * (hi + 1)) : ∀ (l : List Int) (c : Int), (∀ a ∈ l, A ≤ a ∧ a ≤ B) → lo ≤ c → c ≤ hi → lo ≤ (crList l c).2 ∧ (crList l c).2 ≤ hi
  | [], c, _, h3, h4 => ⟨h3, h4⟩
  | a :: r, c, h, h3, h4 => by
    have := h a (by simp)
    exact crList_out h1 h2 r ((a + c) / 65536) (fun b hb => h b (by simp [hb])) oM oM
theorem bd_mem {A B : Int} {l : List Int} (h : Bd A B l) : ∀ a ∈ l, A ≤ a ∧ a ≤ B := by
  intro a ha
  obtain ⟨i, hi, rfl⟩ := List.getElem_of_mem ha
  have := h i hi
  simpa [List.getD_eq_getElem?_getD, hi] using this
theorem mem_bd {A B : Int} {l : List Int} (h : ∀ a ∈ l, A ≤ a ∧ a ≤ B) : Bd A B l := by
  intro j hj
  have := h l[j] (by simp)
  simpa [List.getD_eq_getElem?_getD, hj] using this
/-- What is carried has small limbs, but for the first one. -/
theorem carryR_bd {lo hi A B : Int} {l : List Int} (hl : l.length = 16) (hb : Bd A B l) (h1 : 65536 * lo ≤ A + lo) (h2 : B + hi < 65536 * (hi + 1)) (h3 : lo ≤ 0) (h4 : 0 ≤ hi) :
    ∃ d0 D, carryR l = d0 :: D ∧ D.length = 15 ∧ 38 * lo ≤ d0 ∧ d0 ≤ 65535 + 38 * hi ∧ ∀ d ∈ D, 0 ≤ d ∧ d ≤ 65535 := by
  obtain ⟨d0, D, e1, e2⟩ := carryR_form hl
  have hd := crList_digits l 0
  have ho := crList_out h1 h2 l 0 (bd_mem hb) h3 h4
  have hlen := crList_len l 0
  rw [e1] at hd hlen
  have := hd d0 (by simp)
  refine ⟨_, D, e2, by simp at hlen; omega, by omega, by omega, fun d h => hd d (by simp [h])⟩
theorem goodR_carry {lo hi A B : Int} {l : List Int} (hl : l.length = 16) (hb : Bd A B l) (h1 : 65536 * lo ≤ A + lo) (h2 : B + hi < 65536 * (hi + 1)) (h3 : lo ≤ 0) (h4 : 0 ≤ hi) (h5 : -2 ≤ lo) (h6 : hi ≤ 2) : GoodR (carryR l) := by
  obtain ⟨d0, D, e, hD, k1, k2, k3⟩ := carryR_bd hl hb h1 h2 h3 h4
  refine ⟨by rw [carryR_length]; exact hl, mem_bd fun a ha => ?_⟩
  rw [e] at ha
  rcases List.mem_cons.1 ha with rfl | ha
  · omega
  · have := k3 a ha; omega
theorem addGo_bd {f : Int → Int → Int} {a b : List Int} {A B : Int} (ha : GoodR a) (hb : GoodR b) (h : ∀ x y, -100 ≤ x ∧ x ≤ 66000 → -100 ≤ y ∧ y ≤ 66000 → A ≤ f x y ∧ f x y ≤ B) : Bd A B (addGo f a b 16) := by
  intro j hj
  rw [addGo_length, ha.len] at hj
  rw [addGo_get, if_pos ⟨hj, by rw [ha.len]; exact hj⟩]
  exact h _ _ (ha.bd j (by rw [ha.len]; exact hj)) (hb.bd j (by rw [hb.len]; exact hj))
theorem goodR_add {a b : List Int} (ha : GoodR a) (hb : GoodR b) : GoodR (AddR a b) :=
  goodR_carry (lo := -1) (hi := 2) (by rw [addGo_length, ha.len]) (addGo_bd (A := -200) (B := 132000) ha hb (by intro x y hx hy; show -200 ≤ x + y ∧ x + y ≤ 132000; omega)) oM oM oM oM oM oM
theorem goodR_less {a b : List Int} (ha : GoodR a) (hb : GoodR b) : GoodR (LessR a b) :=
  goodR_carry (lo := -2) (hi := 1) (by rw [addGo_length, ha.len]) (addGo_bd (A := -66100) (B := 66100) ha hb (by intro x y hx hy; show -66100 ≤ x - y ∧ x - y ≤ 66100; omega)) oM oM oM oM oM oM
theorem outR_bd {a b : List Int} (ha : GoodR a) (hb : GoodR b) : Bd (-100000000000000) 100000000000000 (filled (outR (tAll a b 16)) 0 16 16) := by
  intro j hj
  rw [filled_length _ _ _ _ (Nat.le_refl _)] at hj
  have e : (filled (outR (tAll a b 16)) 0 16 16).getD j 0 = outR (tAll a b 16) j := by
    rw [filled_all]; simp [List.getD_eq_getElem?_getD, hj]
  rw [e]
  have h1 := tAll_bd ha hb 16 oM j
  have h2 := tAll_bd ha hb 16 oM (j + 16)
  unfold outR; split <;> omega
theorem crList_cons (a c : Int) (r : List Int) : (crList (a :: r) c).2 = (crList r ((a + c) / 65536)).2 := rfl
theorem step_c {a c K M : Int} (h : 0 ≤ a ∧ a ≤ 65535) (h1 : -K ≤ c) (h2 : c ≤ K) (hM : K + 65536 ≤ 65536 * M) : -M ≤ (a + c) / 65536 ∧ (a + c) / 65536 ≤ M := by omega
theorem second_out {d0 : Int} {D : List Int} (hD : D.length = 15) (h1 : -100000000000000000 ≤ d0) (h2 : d0 ≤ 100000000000000000) (h3 : ∀ d ∈ D, 0 ≤ d ∧ d ≤ 65535) : -1 ≤ (crList (d0 :: D) 0).2 ∧ (crList (d0 :: D) 0).2 ≤ 1 := by
  match D, hD, h3 with
  | d1 :: d2 :: d3 :: d4 :: r, hD, h3 =>
    rw [crList_cons, crList_cons, crList_cons, crList_cons, crList_cons]
    have c0 : -2000000000000 ≤ (d0 + 0) / 65536 ∧ (d0 + 0) / 65536 ≤ 2000000000000 := by omega
    have c1 := step_c (M := 40000000) (h3 d1 (by simp)) c0.1 c0.2 (by decide)
    have c2 := step_c (M := 1000) (h3 d2 (by simp)) c1.1 c1.2 (by decide)
    have c3 := step_c (M := 2) (h3 d3 (by simp)) c2.1 c2.2 (by decide)
    have i4 := h3 d4 (by simp)
    have c4 : -1 ≤ (d4 + (d3 + (d2 + (d1 + (d0 + 0) / 65536) / 65536) / 65536) / 65536) / 65536 ∧ (d4 + (d3 + (d2 + (d1 + (d0 + 0) / 65536) / 65536) / 65536) / 65536) / 65536 ≤ 1 := by
      obtain ⟨k1, k2⟩ := c3
      clear c0 c1 c2
      generalize (d3 + (d2 + (d1 + (d0 + 0) / 65536) / 65536) / 65536) / 65536 = x at k1 k2 ⊢
      omega
    exact crList_out (lo := -1) (hi := 1) (A := 0) (B := 65535) (by decide) (by decide) r _ (fun a ha => h3 a (by simp [ha])) c4.1 c4.2
theorem goodR_second {d0 : Int} {D : List Int} (hD : D.length = 15) (h1 : -100000000000000000 ≤ d0) (h2 : d0 ≤ 100000000000000000) (h3 : ∀ d ∈ D, 0 ≤ d ∧ d ≤ 65535) : GoodR (carryR (d0 :: D)) := by
  have ho := second_out hD h1 h2 h3
  obtain ⟨e0, E, q1, q2⟩ := carryR_form (l := d0 :: D) (by simp [hD])
  have hd := crList_digits (d0 :: D) 0
  rw [q1] at hd
  have := hd e0 (by simp)
  refine ⟨by rw [carryR_length]; simp [hD], mem_bd fun a ha => ?_⟩
  rw [q2] at ha
  rcases List.mem_cons.1 ha with h | ha
  · omega
  · have := hd a (by simp [ha]); omega
theorem goodR_times {a b : List Int} (ha : GoodR a) (hb : GoodR b) : GoodR (TimesR a b) := by
  obtain ⟨d0, D, e, hD, k1, k2, k3⟩ := carryR_bd (lo := -100000000000000) (hi := 100000000000000) (filled_length _ _ _ _ (Nat.le_refl _)) (outR_bd ha hb) oM oM oM oM
  unfold TimesR
  rw [e]
  exact goodR_second hD oM oM k3
theorem bd_carry {a b : List Int} (ha : GoodR a) (hb : GoodR b) : Bd (-1000000000000000) 1000000000000000 (filled (outR (tAll a b 16)) 0 16 16) := fun j hj => by have := outR_bd ha hb j hj; omega
theorem bd_carry2 {a b : List Int} (ha : GoodR a) (hb : GoodR b) : Bd (-1000000000000000) 1000000000000000 (carryR (filled (outR (tAll a b 16)) 0 16 16)) := by
  obtain ⟨d0, D, e, hD, k1, k2, k3⟩ := carryR_bd (lo := -2000000000) (hi := 2000000000) (filled_length _ _ _ _ (Nat.le_refl _)) (outR_bd ha hb) oM oM oM oM
  rw [e]
  refine mem_bd fun x hx => ?_
  rcases List.mem_cons.1 hx with rfl | hx
  · omega
  · have := k3 x hx; omega
theorem GoodR.wide {l : List Int} (h : GoodR l) : Bd (-1000000000000000) 1000000000000000 l := fun j hj => by have := h.bd j hj; omega
theorem addGo_wide {f : Int → Int → Int} {a b : List Int} (ha : GoodR a) (hb : GoodR b) (h : ∀ x y, -100 ≤ x ∧ x ≤ 66000 → -100 ≤ y ∧ y ≤ 66000 → -1000000000000000 ≤ f x y ∧ f x y ≤ 1000000000000000) : Bd (-1000000000000000) 1000000000000000 (addGo f a b 16) := addGo_bd ha hb h
theorem goodR_one : GoodR [1, 0, 0, 0, 0, 0, 0, 0, 0, 0, 0, 0, 0, 0, 0, 0] := ⟨rfl, mem_bd (by decide)⟩
theorem goodR_zero : GoodR (List.replicate 16 0) := ⟨rfl, mem_bd (by decide)⟩
theorem goodR_a24 : GoodR [56129, 1, 0, 0, 0, 0, 0, 0, 0, 0, 0, 0, 0, 0, 0, 0] := ⟨rfl, mem_bd (by decide)⟩
theorem goodR_inv {x : List Int} (h : GoodR x) : ∀ j, GoodR (invRGo x j)
  | 0 => goodR_one
  | j + 1 => by
    unfold invRGo; split
    · exact goodR_times (goodR_inv h j) (goodR_inv h j)
    · exact goodR_times (goodR_times (goodR_inv h j) (goodR_inv h j)) h
theorem read_bd (u : List (BitVec 8)) : 0 ≤ (filled (fun i => ((u.getD (2 * i) 0).toNat : Int) + 256 * ((u.getD (2 * i + 1) 0).toNat : Int)) 0 16 16).getD 15 0 ∧ (filled (fun i => ((u.getD (2 * i) 0).toNat : Int) + 256 * ((u.getD (2 * i + 1) 0).toNat : Int)) 0 16 16).getD 15 0 ≤ 65535 := by
  have h1 := (u.getD (2 * 15) 0).isLt
  have h2 := (u.getD (2 * 15 + 1) 0).isLt
  have e : (filled (fun i => ((u.getD (2 * i) 0).toNat : Int) + 256 * ((u.getD (2 * i + 1) 0).toNat : Int)) 0 16 16).getD 15 0 = ((u.getD (2 * 15) 0).toNat : Int) + 256 * ((u.getD (2 * 15 + 1) 0).toNat : Int) := rfl
  rw [e]; omega
theorem and_mod2 (x : Int) : (((BitVec.ofInt 64 x).toNat &&& (1 : Int).toNat : Nat) : Int) = x % 2 := by
  have h : (BitVec.ofInt 64 x).toNat &&& (1 : Int).toNat = (BitVec.ofInt 64 x).toNat % 2 := Nat.and_two_pow_sub_one_eq_mod _ 1
  rw [h, BitVec.toNat_ofInt]; omega
theorem and_mod65536 (x : Int) : (((BitVec.ofInt 64 x).toNat &&& (65535 : Int).toNat : Nat) : Int) = x % 65536 := by
  have h : (BitVec.ofInt 64 x).toNat &&& (65535 : Int).toNat = (BitVec.ofInt 64 x).toNat % 65536 := Nat.and_two_pow_sub_one_eq_mod _ 16
  rw [h, BitVec.toNat_ofInt]; omega
theorem goodR_carry1 {l : List Int} (h : GoodR l) : GoodR (carryR l) :=
  goodR_carry (lo := -1) (hi := 1) h.len h.bd oM oM oM oM oM oM
/-- The document's p is taken away. -/
def mStep (a m : List Int) (j : Nat) : List Int :=
  (m.set (j + 1) (a.getD (j + 1) 0 - (if j = 14 then 32767 else 65535) - m.getD j 0 / 65536 % 2)).set j ((m.set (j + 1) (a.getD (j + 1) 0 - (if j = 14 then 32767 else 65535) - m.getD j 0 / 65536 % 2)).getD j 0 % 65536)
def mG (a : List Int) : Nat → List Int
  | 0 => (List.replicate 16 0).set 0 (a.getD 0 0 - 65517)
  | j + 1 => mStep a (mG a j) j
theorem mG_zero (a : List Int) : mG a 0 = (List.replicate 16 0).set 0 (a.getD 0 0 - 65517) := rfl
theorem mG_length (a : List Int) (j : Nat) : (mG a j).length = 16 := by
  induction j with
  | zero => rfl
  | succ j ih => simp [mG, mStep, ih]
theorem mG_inv {a : List Int} (ha : GoodR a) : ∀ j : Nat, j ≤ 15 → (∀ i, i < j → 0 ≤ (mG a j).getD i 0 ∧ (mG a j).getD i 0 ≤ 65535) ∧ -100000 ≤ (mG a j).getD j 0 ∧ (mG a j).getD j 0 ≤ 66000 := by
  intro j
  induction j with
  | zero =>
    intro _
    have h := ha.bd 0 (by rw [ha.len]; omega)
    have e : (mG a 0).getD 0 0 = a.getD 0 0 - 65517 := rfl
    exact ⟨fun i hi => by omega, by rw [e]; omega, by rw [e]; omega⟩
  | succ j ih =>
    intro hj
    obtain ⟨h1, h2, h3⟩ := ih oM
    have h := ha.bd (j + 1) (by rw [ha.len]; omega)
    have hl := mG_length a j
    have e0 : ((mG a j).set (j + 1) (a.getD (j + 1) 0 - (if j = 14 then 32767 else 65535) - (mG a j).getD j 0 / 65536 % 2)).getD j 0 = (mG a j).getD j 0 := getD_set_ne oM
    have e1 : (mG a (j + 1)).getD (j + 1) 0 = a.getD (j + 1) 0 - (if j = 14 then 32767 else 65535) - (mG a j).getD j 0 / 65536 % 2 := by
      show (mStep _ _ _).getD _ _ = _
      unfold mStep
      rw [getD_set_ne oM, getD_set_eq oM]
    refine ⟨fun i hi => ?_, by rw [e1]; split <;> omega, by rw [e1]; split <;> omega⟩
    show 0 ≤ (mStep _ _ _).getD _ _ ∧ (mStep _ _ _).getD _ _ ≤ _
    unfold mStep
    by_cases hij : j = i
    · subst hij
      rw [getD_set_eq (by simp; omega)]; omega
    · rw [getD_set_ne hij, getD_set_ne oM]; exact h1 i oM
def subP (a : List Int) : List Int := if 0 ≤ (mG a 15).getD 15 0 then mG a 15 else a
theorem goodR_sub {a : List Int} (ha : GoodR a) : GoodR (subP a) := by
  unfold subP; split
  · rename_i h
    obtain ⟨h1, h2, h3⟩ := mG_inv ha 15 oM
    refine ⟨mG_length a 15, fun j hj => ?_⟩
    rw [mG_length] at hj
    rcases Nat.lt_or_ge j 15 with hlt | hge
    · have := h1 j hlt; omega
    · have : j = 15 := by omega
      subst this; omega
  · exact ha
def redN (a : List Int) : Nat → List Int
  | 0 => a
  | n + 1 => subP (redN a n)
theorem redN_zero (a : List Int) : redN a 0 = a := rfl
theorem goodR_red {a : List Int} (ha : GoodR a) : ∀ n, GoodR (redN a n)
  | 0 => ha
  | n + 1 => goodR_sub (goodR_red ha n)
def wbGo (a : List Int) : Nat → List (BitVec 8)
  | 0 => List.replicate 32 0
  | i + 1 => ((wbGo a i).set (2 * i) (BitVec.ofInt 8 (a.getD i 0))).set (2 * i + 1) (BitVec.ofInt 8 (a.getD i 0 / 256))
theorem wbGo_zero (a : List Int) : wbGo a 0 = List.replicate 32 0 := rfl
theorem wbGo_succ (a : List Int) (i : Nat) : wbGo a (i + 1) = ((wbGo a i).set (2 * i) (BitVec.ofInt 8 (a.getD i 0))).set (2 * i + 1) (BitVec.ofInt 8 (a.getD i 0 / 256)) := rfl
theorem wbGo_length (a : List Int) (i : Nat) : (wbGo a i).length = 32 := by
  induction i with
  | zero => rfl
  | succ i ih => rw [wbGo, List.length_set, List.length_set, ih]
def WriteR (a : List Int) : List (BitVec 8) := wbGo (redN (carryR (carryR (carryR a))) 2) 16
@[simp] theorem WriteR_length (a : List Int) : (WriteR a).length = 32 := wbGo_length _ _
theorem readR_len (u : List (BitVec 8)) : (ReadR u).length = 16 := by unfold ReadR; rw [List.length_set]; exact filled_length _ _ _ _ (Nat.le_refl _)
theorem goodR_read (u : List (BitVec 8)) : GoodR (ReadR u) := by
  refine ⟨readR_len u, fun j hj => ?_⟩
  rw [readR_len] at hj
  unfold ReadR
  by_cases h : 15 = j
  · subst h
    rw [getD_set_eq (by rw [filled_length _ _ _ _ (Nat.le_refl _)]; omega)]
    have := read_bd u; omega
  · rw [getD_set_ne h, filled_all]
    have h1 := (u.getD (2 * j) 0).isLt
    have h2 := (u.getD (2 * j + 1) 0).isLt
    have e : ((List.range 16).map fun i => ((u.getD (2 * i) 0).toNat : Int) + 256 * ((u.getD (2 * i + 1) 0).toNat : Int)).getD j 0 = ((u.getD (2 * j) 0).toNat : Int) + 256 * ((u.getD (2 * j + 1) 0).toNat : Int) := by
      simp [List.getD_eq_getElem?_getD, hj]
    rw [e]; omega


end Go.Proofs.Ytmiagmbgfhakgaa
