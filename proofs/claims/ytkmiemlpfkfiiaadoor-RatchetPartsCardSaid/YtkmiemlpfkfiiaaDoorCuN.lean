/- The curve: the document's numbers, plain. Conditions: none beyond those that each theorem states. -/
import Derived.Test.YtkmiemlpfkfiiaaDoorTab
import Derived.Test.YtkmiemlpfkfiiaaDoorCuM
namespace Go.Proofs.YtkmiemlpfkfiiaaDoor
set_option linter.unusedVariables false
set_option linter.unusedSimpArgs false
theorem Uh {l : List Int} {i : Nat} {x : Int} (h : i < l.length) : (l.set i x).getD i 0 = x := by simp [List.getD_eq_getElem?_getD, h]
theorem Wh {l : List Int} {i j : Nat} {x : Int} (h : i ≠ j) : (l.set i x).getD j 0 = l.getD j 0 := by simp [List.getD_eq_getElem?_getD, h]
def P7 (l : List Int) (i : Nat) : List Int :=
 if i < 15 then (l.set i (l.getD i 0 - l.getD i 0 / 65536 * 65536)).set (i + 1) ((l.set i (l.getD i 0 - l.getD i 0 / 65536 * 65536)).getD (i + 1) 0 + l.getD i 0 / 65536)
 else (l.set i (l.getD i 0 - l.getD i 0 / 65536 * 65536)).set 0 ((l.set i (l.getD i 0 - l.getD i 0 / 65536 * 65536)).getD 0 0 + 38 * (l.getD i 0 / 65536))
def Ue (l : List Int) : Nat → List Int
 | 0 => l
 | i + 1 => P7 (Ue l i) i
theorem Qj9 (l : List Int) (i : Nat) : (P7 l i).length = l.length := by unfold P7; split <;> simp
theorem Qa7 (l : List Int) (i : Nat) : (Ue l i).length = l.length := by
 induction i with
 | zero => rfl
 | succ i ih => rw [Ue, Qj9, ih]
def Q7 (l : List Int) : List Int := Ue l 16
@[simp] theorem Fh (l : List Int) : (Q7 l).length = l.length := Qa7 l 16
def Bd (A B : Int) (l : List Int) : Prop := ∀ j, j < l.length → A ≤ l.getD j 0 ∧ l.getD j 0 ≤ B
theorem crGo_inv {l : List Int} (hl : l.length = 16) (hb : Bd (-1000000000000000) 1000000000000000 l) : ∀ i, i ≤ 15 →
  (∀ j, j < i → 0 ≤ (Ue l i).getD j 0 ∧ (Ue l i).getD j 0 ≤ 65535) ∧ (∀ j, i < j → (Ue l i).getD j 0 = l.getD j 0) ∧ -1000100000000000 ≤ (Ue l i).getD i 0 ∧ (Ue l i).getD i 0 ≤ 1000100000000000 := by
 intro i
 induction i with
 | zero =>
  intro _
  have := hb 0 oM
  exact ⟨by intro j hj; omega, fun j _ => rfl, by simp only [Ue]; omega, by simp only [Ue]; omega⟩
 | succ i ih =>
  intro hi
  obtain ⟨h1, h2, h3, h4⟩ := ih oM
  have hlen := Qa7 l i
  have hs : Ue l (i + 1) = ((Ue l i).set i ((Ue l i).getD i 0 - (Ue l i).getD i 0 / 65536 * 65536)).set (i + 1) (((Ue l i).set i ((Ue l i).getD i 0 - (Ue l i).getD i 0 / 65536 * 65536)).getD (i + 1) 0 + (Ue l i).getD i 0 / 65536) := by
   show P7 _ _ = _
   unfold P7; rw [if_pos oM]
  have hb1 := hb (i + 1) oM
  have e1 : (Ue l (i + 1)).getD (i + 1) 0 = l.getD (i + 1) 0 + (Ue l i).getD i 0 / 65536 := by
   rw [hs, Uh (by simp; omega), Wh oM, h2 (i + 1) oM]
  refine ⟨fun j hj => ?_, fun j hj => ?_, by rw [e1]; omega, by rw [e1]; omega⟩
  ·rw [hs, Wh oM]
   rcases Nat.lt_or_ge j i with h | h
   ·rw [Wh oM]; exact h1 j h
   have : j = i := by omega
   subst this
   rw [Uh oM]; omega
  rw [hs, Wh oM, Wh oM]; exact h2 j oM
structure GoodR (l : List Int) : Prop where
 len : l.length = 16
 bd : Bd (-100) 66000 l
def Bv (f : Int → Int → Int) (a b : List Int) : Nat → List Int
 | 0 => a
 | i + 1 => (Bv f a b i).set i (f ((Bv f a b i).getD i 0) (b.getD i 0))
theorem Ve (f : Int → Int → Int) (a b : List Int) (i : Nat) : (Bv f a b i).length = a.length := by
 induction i with
 | zero => rfl
 | succ i ih => rw [Bv, List.length_set, ih]
theorem Qdy (f : Int → Int → Int) (a b : List Int) : ∀ (i j : Nat), (Bv f a b i).getD j 0 = if j < i ∧ j < a.length then f (a.getD j 0) (b.getD j 0) else a.getD j 0 := by
 intro i
 induction i with
 | zero => intro j; simp [Bv]
 | succ i ih =>
  intro j
  rw [Bv]
  by_cases h : i = j
  ·subst h
   by_cases hl : i < a.length
   ·rw [Uh (by rw [Ve]; exact hl), ih, if_neg oM, if_pos ⟨by omega, hl⟩]
   rw [List.set_eq_of_length_le (by rw [Ve]; omega), ih, if_neg oM, if_neg oM]
  rw [Wh h, ih]
  by_cases hj : j < i ∧ j < a.length
  ·rw [if_pos hj, if_pos ⟨by omega, hj.2⟩]
  rw [if_neg hj, if_neg oM]
def Kq (a b : List Int) : List Int := Q7 (Bv (· + ·) a b 16)
def Yx (a b : List Int) : List Int := Q7 (Bv (· - ·) a b 16)
def Qek (a b : List Int) (i : Nat) (l : List Int) : Nat → List Int
 | 0 => l
 | k + 1 => (Qek a b i l k).set (i + k) ((Qek a b i l k).getD (i + k) 0 + a.getD i 0 * b.getD k 0)
def Et (a b : List Int) : Nat → List Int
 | 0 => List.replicate 31 0
 | i + 1 => Qek a b i (Et a b i) 16
theorem Qa0 (a b : List Int) (i : Nat) (l : List Int) (k : Nat) : (Qek a b i l k).length = l.length := by
 induction k with
 | zero => rfl
 | succ k ih => rw [Qek, List.length_set, ih]
theorem L9 (a b : List Int) (i : Nat) : (Et a b i).length = 31 := by
 induction i with
 | zero => rfl
 | succ i ih => rw [Et, Qa0, ih]
theorem mul_bd {a b : Int} (ha : -100 ≤ a ∧ a ≤ 66000) (hb : -100 ≤ b ∧ b ≤ 66000) : -4400000000 ≤ a * b ∧ a * b ≤ 4400000000 := by
 have h1 : 0 ≤ (a + 100) * (b + 100) := Int.mul_nonneg oM oM
 have h2 : 0 ≤ (66000 - a) * (b + 100) := Int.mul_nonneg oM oM
 have h3 : 0 ≤ (a + 100) * (66000 - b) := Int.mul_nonneg oM oM
 have h4 : 0 ≤ (66000 - a) * (66000 - b) := Int.mul_nonneg oM oM
 have e1 : (a + 100) * (b + 100) = a * b + 100 * a + 100 * b + 10000 := by grind
 have e2 : (66000 - a) * (b + 100) = 66000 * b + 6600000 - a * b - 100 * a := by grind
 have e3 : (a + 100) * (66000 - b) = 66000 * a + 6600000 - a * b - 100 * b := by grind
 omega
theorem Qp8 {a b : List Int} (ha : GoodR a) (hb : GoodR b) {i : Nat} (hi : i < 16) {l : List Int} (hll : l.length = 31) {M : Int} (hl : ∀ j, -M ≤ l.getD j 0 ∧ l.getD j 0 ≤ M) : ∀ k, k ≤ 16 → ∀ j, -(M + k * 4400000000) ≤ (Qek a b i l k).getD j 0 ∧ (Qek a b i l k).getD j 0 ≤ M + k * 4400000000 := by
 intro k
 induction k with
 | zero => intro _ j; have := hl j; simp only [Qek]; omega
 | succ k ih =>
  intro hk j
  have h1 := ih oM j
  have h2 := mul_bd (ha.bd i (by rw [ha.len]; exact hi)) (hb.bd k (by rw [hb.len]; omega))
  rw [Qek]
  by_cases h : i + k = j
  ·subst h
   rw [Uh (by rw [Qa0]; omega)]
   have e : ((k + 1 : Nat) : Int) * 4400000000 = k * 4400000000 + 4400000000 := by omega
   rw [e]; omega
  rw [Wh h]
  have e : ((k + 1 : Nat) : Int) * 4400000000 = k * 4400000000 + 4400000000 := by omega
  rw [e]; omega
theorem Qe4 {a b : List Int} (ha : GoodR a) (hb : GoodR b) : ∀ i : Nat, i ≤ 16 → ∀ j, -((i : Int) * 70400000000) ≤ (Et a b i).getD j 0 ∧ (Et a b i).getD j 0 ≤ (i : Int) * 70400000000 := by
 intro i
 induction i with
 | zero =>
  intro _ j
  have : (Et a b 0).getD j 0 = 0 := by
   simp only [Et, List.getD_eq_getElem?_getD, List.getElem?_replicate]; split <;> rfl
  rw [this]; omega
 | succ i ih =>
  intro hi j
  have := Qp8 ha hb (show i < 16 by omega) (L9 a b i) (M := (i : Int) * 70400000000) (ih oM) 16 oM j
  rw [Et]; omega
def Rt (t : List Int) (i : Nat) : Int := if i < 15 then t.getD i 0 + 38 * t.getD (i + 16) 0 else t.getD i 0
def Xj (a b : List Int) : List Int := Q7 (Q7 (Y1 (Rt (Et a b 16)) 0 16 16))
def Q8 (u : Xg) : List Int := (Y1 (fun i => ((u.getD (2 * i) 0).toNat : Int) + 256 * ((u.getD (2 * i + 1) 0).toNat : Int)) 0 16 16).set 15 ((Y1 (fun i => ((u.getD (2 * i) 0).toNat : Int) + 256 * ((u.getD (2 * i + 1) 0).toNat : Int)) 0 16 16).getD 15 0 % 32768)
def V4 (x : List Int) : Nat → List Int
 | 0 => [1, 0, 0, 0, 0, 0, 0, 0, 0, 0, 0, 0, 0, 0, 0, 0]
 | j + 1 => if j = 252 ∨ j = 250 then Xj (V4 x j) (V4 x j) else Xj (Xj (V4 x j) (V4 x j)) x
theorem Qky {x : List Int} {j : Nat} (h : j = 252 ∨ j = 250) : Xj (V4 x j) (V4 x j) = V4 x (j + 1) := by
 show _ = if j = 252 ∨ j = 250 then _ else _
 rw [if_pos h]
theorem Qoz {x : List Int} {j : Nat} (h : ¬ (j = 252 ∨ j = 250)) : Xj (Xj (V4 x j) (V4 x j)) x = V4 x (j + 1) := by
 show _ = if j = 252 ∨ j = 250 then _ else _
 rw [if_neg h]
theorem Qno (x : List Int) : V4 x 0 = [1, 0, 0, 0, 0, 0, 0, 0, 0, 0, 0, 0, 0, 0, 0, 0] := rfl
def Wv : List Int → Int → List Int × Int
 | [], c => ([], c)
 | a :: r, c => (((a + c) % 65536) :: (Wv r ((a + c) / 65536)).1, (Wv r ((a + c) / 65536)).2)
theorem Qar : ∀ (l : List Int) (c : Int), (Wv l c).1.length = l.length
 | [], _ => rfl
 | a :: r, c => by simp [Wv, Qar r]
theorem Qbe : ∀ (l m : List Int) (c : Int), Wv (l ++ m) c = ((Wv l c).1 ++ (Wv m (Wv l c).2).1, (Wv m (Wv l c).2).2)
 | [], m, c => rfl
 | a :: r, m, c => by simp [Wv, Qbe r m]
def Qig (c : Int) : List Int → List Int
 | [] => []
 | a :: r => (a + c) :: r
theorem Qr3 {l : List Int} (hl : l.length = 16) : ∀ i, i ≤ 15 → Ue l i = (Wv (l.take i) 0).1 ++ Qig (Wv (l.take i) 0).2 (l.drop i) := by
 intro i
 induction i with
 | zero =>
  intro _
  simp only [Ue, List.take_zero, Wv, List.nil_append, List.drop_zero]
  cases l with
  | nil => rfl
  | cons a r => simp [Qig]
 | succ i ih =>
  intro hi
  have hi1 : i < l.length := by omega
  have hi2 : i + 1 < l.length := by omega
  have hd : l.drop i = l[i] :: l.drop (i + 1) := List.drop_eq_getElem_cons hi1
  have hd2 : l.drop (i + 1) = l[i + 1] :: l.drop (i + 2) := List.drop_eq_getElem_cons hi2
  have ht : l.take (i + 1) = l.take i ++ [l[i]] := (List.take_append_getElem hi1).symm
  have hlen : (Wv (l.take i) 0).1.length = i := by rw [Qar, List.length_take]; omega
  show P7 (Ue l i) i = _
  rw [ih oM, hd, hd2, ht, Qbe]
  generalize hD : (Wv (l.take i) 0).1 = D at *
  generalize (Wv (l.take i) 0).2 = c at *
  simp only [Qig, Wv, List.append_nil]
  have g1 : (D ++ (l[i] + c) :: l[i + 1] :: l.drop (i + 2)).getD i 0 = l[i] + c := by simp [List.getD_eq_getElem?_getD, hlen]
  unfold P7
  rw [if_pos oM, g1]
  have g2 : (D ++ (l[i] + c) :: l[i + 1] :: l.drop (i + 2)).set i (l[i] + c - (l[i] + c) / 65536 * 65536) = D ++ ((l[i] + c) % 65536) :: l[i + 1] :: l.drop (i + 2) := by
   rw [List.set_append_right _ _ oM, hlen, Nat.sub_self, List.set_cons_zero]
   congr 2; omega
  rw [g2]
  have g3 : (D ++ (l[i] + c) % 65536 :: l[i + 1] :: l.drop (i + 2)).getD (i + 1) 0 = l[i + 1] := by
   simp only [List.getD_eq_getElem?_getD]
   rw [List.getElem?_append_right oM, hlen]
   simp [hi2]
  rw [g3, List.set_append_right _ _ oM, hlen, show i + 1 - i = 1 by omega]
  simp only [List.set_cons_succ, List.set_cons_zero, List.append_assoc, List.cons_append, List.nil_append]
theorem Qa8 {l : List Int} (hl : l.length = 16) : ∃ d0 D, Wv l 0 = (d0 :: D, (Wv l 0).2) ∧ Q7 l = (d0 + 38 * (Wv l 0).2) :: D := by
 have h15 := Qr3 hl 15 oM
 have hi : 15 < l.length := by omega
 have hd : l.drop 15 = [l[15]] := by
  rw [List.drop_eq_getElem_cons hi, List.drop_eq_nil_of_le oM]
 have ht : l = l.take 15 ++ [l[15]] := by
  conv => lhs; rw [← List.take_append_drop 15 l]
  rw [hd]
 have hlen : (Wv (l.take 15) 0).1.length = 15 := by rw [Qar, List.length_take]; omega
 have hc : Wv l 0 = ((Wv (l.take 15) 0).1 ++ [(l[15] + (Wv (l.take 15) 0).2) % 65536], (l[15] + (Wv (l.take 15) 0).2) / 65536) := by
  conv => lhs; rw [ht, Qbe]
  rfl
 have hk : Q7 l = P7 (Ue l 15) 15 := rfl
 rw [hk, h15, hd, hc]
 simp only [Qig]
 generalize (Wv (l.take 15) 0).1 = D at *
 generalize (Wv (l.take 15) 0).2 = c at *
 have g1 : (D ++ [l[15] + c]).getD 15 0 = l[15] + c := by simp [List.getD_eq_getElem?_getD, hlen]
 have g2 : (D ++ [l[15] + c]).set 15 (l[15] + c - (l[15] + c) / 65536 * 65536) = D ++ [(l[15] + c) % 65536] := by
  rw [List.set_append_right _ _ oM, hlen]
  simp; omega
 unfold P7
 rw [if_neg oM, g1, g2]
 cases D with
 | nil => simp at hlen
 | cons d0 D => exact ⟨d0, D ++ [(l[15] + c) % 65536], rfl, by simp⟩
theorem Rk : ∀ (l : List Int) (c : Int), ∀ d ∈ (Wv l c).1, 0 ≤ d ∧ d ≤ 65535
 | [], _, d, h => by simp [Wv] at h
 | a :: r, c, d, h => by
  simp only [Wv, List.mem_cons] at h
  rcases h with rfl | h
  ·omega
  exact Rk r _ d h
theorem Qce {lo hi A B : Int} (h1 : 65536 * lo ≤ A + lo) (h2 : B + hi < 65536 * (hi + 1)) : ∀ (l : List Int) (c : Int), (∀ a ∈ l, A ≤ a ∧ a ≤ B) → lo ≤ c → c ≤ hi → lo ≤ (Wv l c).2 ∧ (Wv l c).2 ≤ hi
 | [], c, _, h3, h4 => ⟨h3, h4⟩
 | a :: r, c, h, h3, h4 => by
  have := h a X7
  exact Qce h1 h2 r ((a + c) / 65536) (fun b hb => h b (by simp [hb])) oM oM
theorem Qp2 {A B : Int} {l : List Int} (h : Bd A B l) : ∀ a ∈ l, A ≤ a ∧ a ≤ B := by
 intro a ha
 obtain ⟨i, hi, rfl⟩ := List.getElem_of_mem ha
 have := h i hi
 simpa [List.getD_eq_getElem?_getD, hi] using this
theorem Qap {A B : Int} {l : List Int} (h : ∀ a ∈ l, A ≤ a ∧ a ≤ B) : Bd A B l := by
 intro j hj
 have := h l[j] X7
 simpa [List.getD_eq_getElem?_getD, hj] using this
theorem Qdw {lo hi A B : Int} {l : List Int} (hl : l.length = 16) (hb : Bd A B l) (h1 : 65536 * lo ≤ A + lo) (h2 : B + hi < 65536 * (hi + 1)) (h3 : lo ≤ 0) (h4 : 0 ≤ hi) :
  ∃ d0 D, Q7 l = d0 :: D ∧ D.length = 15 ∧ 38 * lo ≤ d0 ∧ d0 ≤ 65535 + 38 * hi ∧ ∀ d ∈ D, 0 ≤ d ∧ d ≤ 65535 := by
 obtain ⟨d0, D, e1, e2⟩ := Qa8 hl
 have hd := Rk l 0
 have ho := Qce h1 h2 l 0 (Qp2 hb) h3 h4
 have hlen := Qar l 0
 rw [e1] at hd hlen
 have := hd d0 X7
 refine ⟨_, D, e2, by simp at hlen; omega, by omega, by omega, fun d h => hd d (by simp [h])⟩
theorem Qda {lo hi A B : Int} {l : List Int} (hl : l.length = 16) (hb : Bd A B l) (h1 : 65536 * lo ≤ A + lo) (h2 : B + hi < 65536 * (hi + 1)) (h3 : lo ≤ 0) (h4 : 0 ≤ hi) (h5 : -2 ≤ lo) (h6 : hi ≤ 2) : GoodR (Q7 l) := by
 obtain ⟨d0, D, e, hD, k1, k2, k3⟩ := Qdw hl hb h1 h2 h3 h4
 refine ⟨by rw [Fh]; exact hl, Qap fun a ha => ?_⟩
 rw [e] at ha
 rcases List.mem_cons.1 ha with rfl | ha
 ·omega
 have := k3 a ha; omega
theorem Qjw {f : Int → Int → Int} {a b : List Int} {A B : Int} (ha : GoodR a) (hb : GoodR b) (h : ∀ x y, -100 ≤ x ∧ x ≤ 66000 → -100 ≤ y ∧ y ≤ 66000 → A ≤ f x y ∧ f x y ≤ B) : Bd A B (Bv f a b 16) := by
 intro j hj
 rw [Ve, ha.len] at hj
 rw [Qdy, if_pos ⟨hj, by rw [ha.len]; exact hj⟩]
 exact h _ _ (ha.bd j (by rw [ha.len]; exact hj)) (hb.bd j (by rw [hb.len]; exact hj))
theorem Zy {a b : List Int} (ha : GoodR a) (hb : GoodR b) : GoodR (Kq a b) :=
 Qda (lo := -1) (hi := 2) (by rw [Ve, ha.len]) (Qjw (A := -200) (B := 132000) ha hb (by intro x y hx hy; show -200 ≤ x + y ∧ x + y ≤ 132000; omega)) oM oM oM oM oM oM
theorem Zq {a b : List Int} (ha : GoodR a) (hb : GoodR b) : GoodR (Yx a b) :=
 Qda (lo := -2) (hi := 1) (by rw [Ve, ha.len]) (Qjw (A := -66100) (B := 66100) ha hb (by intro x y hx hy; show -66100 ≤ x - y ∧ x - y ≤ 66100; omega)) oM oM oM oM oM oM
theorem Ql0 {a b : List Int} (ha : GoodR a) (hb : GoodR b) : Bd (-100000000000000) 100000000000000 (Y1 (Rt (Et a b 16)) 0 16 16) := by
 intro j hj
 rw [Kz _ _ _ _ (Nat.le_refl _)] at hj
 have e : (Y1 (Rt (Et a b 16)) 0 16 16).getD j 0 = Rt (Et a b 16) j := by
  rw [Ag]; simp [List.getD_eq_getElem?_getD, hj]
 rw [e]
 have h1 := Qe4 ha hb 16 oM j
 have h2 := Qe4 ha hb 16 oM (j + 16)
 unfold Rt; split <;> omega
theorem Rz (a c : Int) (r : List Int) : (Wv (a :: r) c).2 = (Wv r ((a + c) / 65536)).2 := rfl
theorem Qoe {a c K M : Int} (h : 0 ≤ a ∧ a ≤ 65535) (h1 : -K ≤ c) (h2 : c ≤ K) (hM : K + 65536 ≤ 65536 * M) : -M ≤ (a + c) / 65536 ∧ (a + c) / 65536 ≤ M := by omega
theorem Qof {d0 : Int} {D : List Int} (hD : D.length = 15) (h1 : -100000000000000000 ≤ d0) (h2 : d0 ≤ 100000000000000000) (h3 : ∀ d ∈ D, 0 ≤ d ∧ d ≤ 65535) : -1 ≤ (Wv (d0 :: D) 0).2 ∧ (Wv (d0 :: D) 0).2 ≤ 1 := by
 match D, hD, h3 with
 | d1 :: d2 :: d3 :: d4 :: r, hD, h3 =>
  rw [Rz, Rz, Rz, Rz, Rz]
  have c0 : -2000000000000 ≤ (d0 + 0) / 65536 ∧ (d0 + 0) / 65536 ≤ 2000000000000 := by omega
  have c1 := Qoe (M := 40000000) (h3 d1 X7) c0.1 c0.2 Jg
  have c2 := Qoe (M := 1000) (h3 d2 X7) c1.1 c1.2 Jg
  have c3 := Qoe (M := 2) (h3 d3 X7) c2.1 c2.2 Jg
  have i4 := h3 d4 X7
  have c4 : -1 ≤ (d4 + (d3 + (d2 + (d1 + (d0 + 0) / 65536) / 65536) / 65536) / 65536) / 65536 ∧ (d4 + (d3 + (d2 + (d1 + (d0 + 0) / 65536) / 65536) / 65536) / 65536) / 65536 ≤ 1 := by
   obtain ⟨k1, k2⟩ := c3
   clear c0 c1 c2
   generalize (d3 + (d2 + (d1 + (d0 + 0) / 65536) / 65536) / 65536) / 65536 = x at k1 k2 ⊢
   omega
  exact Qce (lo := -1) (hi := 1) (A := 0) (B := 65535) Jg Jg r _ (fun a ha => h3 a (by simp [ha])) c4.1 c4.2
theorem Ql7 {d0 : Int} {D : List Int} (hD : D.length = 15) (h1 : -100000000000000000 ≤ d0) (h2 : d0 ≤ 100000000000000000) (h3 : ∀ d ∈ D, 0 ≤ d ∧ d ≤ 65535) : GoodR (Q7 (d0 :: D)) := by
 have ho := Qof hD h1 h2 h3
 obtain ⟨e0, E, q1, q2⟩ := Qa8 (l := d0 :: D) (by simp [hD])
 have hd := Rk (d0 :: D) 0
 rw [q1] at hd
 have := hd e0 X7
 refine ⟨by rw [Fh]; simp [hD], Qap fun a ha => ?_⟩
 rw [q2] at ha
 rcases List.mem_cons.1 ha with h | ha
 ·omega
 have := hd a (by simp [ha]); omega
theorem Zk {a b : List Int} (ha : GoodR a) (hb : GoodR b) : GoodR (Xj a b) := by
 obtain ⟨d0, D, e, hD, k1, k2, k3⟩ := Qdw (lo := -100000000000000) (hi := 100000000000000) (Kz _ _ _ _ (Nat.le_refl _)) (Ql0 ha hb) oM oM oM oM
 unfold Xj
 rw [e]
 exact Ql7 hD oM oM k3
theorem bd_carry {a b : List Int} (ha : GoodR a) (hb : GoodR b) : Bd (-1000000000000000) 1000000000000000 (Y1 (Rt (Et a b 16)) 0 16 16) := fun j hj => by have := Ql0 ha hb j hj; omega
theorem Qsg {a b : List Int} (ha : GoodR a) (hb : GoodR b) : Bd (-1000000000000000) 1000000000000000 (Q7 (Y1 (Rt (Et a b 16)) 0 16 16)) := by
 obtain ⟨d0, D, e, hD, k1, k2, k3⟩ := Qdw (lo := -2000000000) (hi := 2000000000) (Kz _ _ _ _ (Nat.le_refl _)) (Ql0 ha hb) oM oM oM oM
 rw [e]
 refine Qap fun x hx => ?_
 rcases List.mem_cons.1 hx with rfl | hx
 ·omega
 have := k3 x hx; omega
theorem GoodR.wide {l : List Int} (h : GoodR l) : Bd (-1000000000000000) 1000000000000000 l := fun j hj => by have := h.bd j hj; omega
theorem Qjv {f : Int → Int → Int} {a b : List Int} (ha : GoodR a) (hb : GoodR b) (h : ∀ x y, -100 ≤ x ∧ x ≤ 66000 → -100 ≤ y ∧ y ≤ 66000 → -1000000000000000 ≤ f x y ∧ f x y ≤ 1000000000000000) : Bd (-1000000000000000) 1000000000000000 (Bv f a b 16) := Qjw ha hb h
theorem Qdr : GoodR [1, 0, 0, 0, 0, 0, 0, 0, 0, 0, 0, 0, 0, 0, 0, 0] := ⟨rfl, Qap Jg⟩
theorem Na : GoodR [56129, 1, 0, 0, 0, 0, 0, 0, 0, 0, 0, 0, 0, 0, 0, 0] := ⟨rfl, Qap Jg⟩
theorem Py {x : List Int} (h : GoodR x) : ∀ j, GoodR (V4 x j)
 | 0 => Qdr
 | j + 1 => by
  unfold V4; split
  ·exact Zk (Py h j) (Py h j)
  exact Zk (Zk (Py h j) (Py h j)) h
theorem Qqe (u : Xg) : 0 ≤ (Y1 (fun i => ((u.getD (2 * i) 0).toNat : Int) + 256 * ((u.getD (2 * i + 1) 0).toNat : Int)) 0 16 16).getD 15 0 ∧ (Y1 (fun i => ((u.getD (2 * i) 0).toNat : Int) + 256 * ((u.getD (2 * i + 1) 0).toNat : Int)) 0 16 16).getD 15 0 ≤ 65535 := by
 have h1 := (u.getD (2 * 15) 0).isLt
 have h2 := (u.getD (2 * 15 + 1) 0).isLt
 have e : (Y1 (fun i => ((u.getD (2 * i) 0).toNat : Int) + 256 * ((u.getD (2 * i + 1) 0).toNat : Int)) 0 16 16).getD 15 0 = ((u.getD (2 * 15) 0).toNat : Int) + 256 * ((u.getD (2 * 15 + 1) 0).toNat : Int) := rfl
 rw [e]; omega
theorem Qoa (x : Int) : (((BitVec.ofInt 64 x).toNat &&& (1 : Int).toNat : Nat) : Int) = x % 2 := by
 have h : (BitVec.ofInt 64 x).toNat &&& (1 : Int).toNat = (BitVec.ofInt 64 x).toNat % 2 := Nat.and_two_pow_sub_one_eq_mod _ 1
 rw [h, BitVec.toNat_ofInt]; omega
theorem Qf2 (x : Int) : (((BitVec.ofInt 64 x).toNat &&& (65535 : Int).toNat : Nat) : Int) = x % 65536 := by
 have h : (BitVec.ofInt 64 x).toNat &&& (65535 : Int).toNat = (BitVec.ofInt 64 x).toNat % 65536 := Nat.and_two_pow_sub_one_eq_mod _ 16
 rw [h, BitVec.toNat_ofInt]; omega
theorem Ha {l : List Int} (h : GoodR l) : GoodR (Q7 l) :=
 Qda (lo := -1) (hi := 1) h.len h.bd oM oM oM oM oM oM
def Qbr (a m : List Int) (j : Nat) : List Int :=
 (m.set (j + 1) (a.getD (j + 1) 0 - (if j = 14 then 32767 else 65535) - m.getD j 0 / 65536 % 2)).set j ((m.set (j + 1) (a.getD (j + 1) 0 - (if j = 14 then 32767 else 65535) - m.getD j 0 / 65536 % 2)).getD j 0 % 65536)
def mG (a : List Int) : Nat → List Int
 | 0 => (List.replicate 16 0).set 0 (a.getD 0 0 - 65517)
 | j + 1 => Qbr a (mG a j) j
theorem mG_zero (a : List Int) : mG a 0 = (List.replicate 16 0).set 0 (a.getD 0 0 - 65517) := rfl
theorem Bc (a : List Int) (j : Nat) : (mG a j).length = 16 := by
 induction j with
 | zero => rfl
 | succ j ih => simp [mG, Qbr, ih]
theorem Qot {a : List Int} (ha : GoodR a) : ∀ j : Nat, j ≤ 15 → (∀ i, i < j → 0 ≤ (mG a j).getD i 0 ∧ (mG a j).getD i 0 ≤ 65535) ∧ -100000 ≤ (mG a j).getD j 0 ∧ (mG a j).getD j 0 ≤ 66000 := by
 intro j
 induction j with
 | zero =>
  intro _
  have h := ha.bd 0 (by rw [ha.len]; omega)
  have e : (mG a 0).getD 0 0 = a.getD 0 0 - 65517 := rfl
  exact ⟨fun i hi => by omega, by rw [e]; omega, by rw [e]; omega⟩
 | succ j ih =>
  intro hj
  obtain ⟨h1, h2, h3⟩ := ih oM
  have h := ha.bd (j + 1) (by rw [ha.len]; omega)
  have hl := Bc a j
  have e0 : ((mG a j).set (j + 1) (a.getD (j + 1) 0 - (if j = 14 then 32767 else 65535) - (mG a j).getD j 0 / 65536 % 2)).getD j 0 = (mG a j).getD j 0 := Wh oM
  have e1 : (mG a (j + 1)).getD (j + 1) 0 = a.getD (j + 1) 0 - (if j = 14 then 32767 else 65535) - (mG a j).getD j 0 / 65536 % 2 := by
   show (Qbr _ _ _).getD _ _ = _
   unfold Qbr
   rw [Wh oM, Uh oM]
  refine ⟨fun i hi => ?_, by rw [e1]; split <;> omega, by rw [e1]; split <;> omega⟩
  show 0 ≤ (Qbr _ _ _).getD _ _ ∧ (Qbr _ _ _).getD _ _ ≤ _
  unfold Qbr
  by_cases hij : j = i
  ·subst hij
   rw [Uh (by simp; omega)]; omega
  rw [Wh hij, Wh oM]; exact h1 i oM
def Qhq (a : List Int) : List Int := if 0 ≤ (mG a 15).getD 15 0 then mG a 15 else a
theorem Qrs {a : List Int} (ha : GoodR a) : GoodR (Qhq a) := by
 unfold Qhq; split
 ·rename_i h
  obtain ⟨h1, h2, h3⟩ := Qot ha 15 oM
  refine ⟨Bc a 15, fun j hj => ?_⟩
  rw [Bc] at hj
  rcases Nat.lt_or_ge j 15 with hlt | hge
  ·have := h1 j hlt; omega
  have : j = 15 := by omega
  subst this; omega
 exact ha
def Vr (a : List Int) : Nat → List Int
 | 0 => a
 | n + 1 => Qhq (Vr a n)
theorem Qri (a : List Int) : Vr a 0 = a := rfl
theorem Qk0 {a : List Int} (ha : GoodR a) : ∀ n, GoodR (Vr a n)
 | 0 => ha
 | n + 1 => Qrs (Qk0 ha n)
def Qho (a : List Int) : Nat → Xg
 | 0 => List.replicate 32 0
 | i + 1 => ((Qho a i).set (2 * i) (BitVec.ofInt 8 (a.getD i 0))).set (2 * i + 1) (BitVec.ofInt 8 (a.getD i 0 / 256))
theorem Qq6 (a : List Int) : Qho a 0 = List.replicate 32 0 := rfl
theorem Qki (a : List Int) (i : Nat) : Qho a (i + 1) = ((Qho a i).set (2 * i) (BitVec.ofInt 8 (a.getD i 0))).set (2 * i + 1) (BitVec.ofInt 8 (a.getD i 0 / 256)) := rfl
theorem L8 (a : List Int) (i : Nat) : (Qho a i).length = 32 := by
 induction i with
 | zero => rfl
 | succ i ih => rw [Qho, List.length_set, List.length_set, ih]
def Qci (a : List Int) : Xg := Qho (Vr (Q7 (Q7 (Q7 a))) 2) 16
@[simp] theorem Qkf (a : List Int) : (Qci a).length = 32 := L8 _ _
theorem Qdm (u : Xg) : (Q8 u).length = 16 := by unfold Q8; rw [List.length_set]; exact Kz _ _ _ _ (Nat.le_refl _)
theorem Qb9 (u : Xg) : GoodR (Q8 u) := by
 refine ⟨Qdm u, fun j hj => ?_⟩
 rw [Qdm] at hj
 unfold Q8
 by_cases h : 15 = j
 ·subst h
  rw [Uh (by rw [Kz _ _ _ _ (Nat.le_refl _)]; omega)]
  have := Qqe u; omega
 rw [Wh h, Ag]
 have h1 := (u.getD (2 * j) 0).isLt
 have h2 := (u.getD (2 * j + 1) 0).isLt
 have e : ((List.range 16).map fun i => ((u.getD (2 * i) 0).toNat : Int) + 256 * ((u.getD (2 * i + 1) 0).toNat : Int)).getD j 0 = ((u.getD (2 * j) 0).toNat : Int) + 256 * ((u.getD (2 * j + 1) 0).toNat : Int) := by
  simp [List.getD_eq_getElem?_getD, hj]
 rw [e]; omega
end Go.Proofs.YtkmiemlpfkfiiaaDoor
