/- The curve: the document's numbers, plain. Conditions: none beyond those that each theorem states. -/
import Derived.Test.YtkmiemlpfkfiiaaDoorTab
import Derived.Test.YtkmiemlpfkfiiaaDoorCuM
namespace Go.Proofs.YtkmiemlpfkfiiaaDoor
open BitVec renaming ofInt → aB, toNat_ofInt → bU
open List renaming getD_eq_getElem?_getD → aI, length_set → cu, nil_append → aX, replicate → aA
open Nat renaming le_refl → di, lt_or_ge → ay
set_option linter.unusedVariables false
set_option linter.unusedSimpArgs false
theorem Uc {l : List Int} {i : Nat} {x : Int} (h : i < l.length) : (l.set i x).getD i 0 = x := by simp [aI, h]
theorem Kq {l : List Int} {i j : Nat} {x : Int} (h : i ≠ j) : (l.set i x).getD j 0 = l.getD j 0 := by simp [aI, h]
def P5 (l : List Int) (i : Nat) : List Int :=
 if i < 15 then (l.set i (l.getD i 0 - l.getD i 0 / 65536 * 65536)).set (i + 1) ((l.set i (l.getD i 0 - l.getD i 0 / 65536 * 65536)).getD (i + 1) 0 + l.getD i 0 / 65536)
 else (l.set i (l.getD i 0 - l.getD i 0 / 65536 * 65536)).set 0 ((l.set i (l.getD i 0 - l.getD i 0 / 65536 * 65536)).getD 0 0 + 38 * (l.getD i 0 / 65536))
def Ua (l : List Int) : Nat → List Int
 | 0 => l
 | i + 1 => P5 (Ua l i) i
theorem Qk4 (l : List Int) (i : Nat) : (P5 l i).length = l.length := by unfold P5; split <;> simp
theorem Qa8 (l : List Int) (i : Nat) : (Ua l i).length = l.length := by
 induction i with
 | zero => rfl
 | succ i ih => rw [Ua, Qk4, ih]
def Qw (l : List Int) : List Int := Ua l 16
@[simp] theorem U9 (l : List Int) : (Qw l).length = l.length := Qa8 l 16
def Bd (A B : Int) (l : List Int) : Prop := ∀ j, j < l.length → A ≤ l.getD j 0 ∧ l.getD j 0 ≤ B
theorem crGo_inv {l : List Int} (hl : l.length = 16) (hb : Bd (-1000000000000000) 1000000000000000 l) : ∀ i, i ≤ 15 →
  (∀ j, j < i → 0 ≤ (Ua l i).getD j 0 ∧ (Ua l i).getD j 0 ≤ 65535) ∧ (∀ j, i < j → (Ua l i).getD j 0 = l.getD j 0) ∧ -1000100000000000 ≤ (Ua l i).getD i 0 ∧ (Ua l i).getD i 0 ≤ 1000100000000000 := by
 intro i
 induction i with
 | zero =>
  intro _
  have := hb 0 oM
  exact ⟨by intro j hj; omega, fun j _ => rfl, by simp only [Ua]; omega, by simp only [Ua]; omega⟩
 | succ i ih =>
  intro hi
  obtain ⟨h1, h2, h3, h4⟩ := ih oM
  have hlen := Qa8 l i
  have hs : Ua l (i + 1) = ((Ua l i).set i ((Ua l i).getD i 0 - (Ua l i).getD i 0 / 65536 * 65536)).set (i + 1) (((Ua l i).set i ((Ua l i).getD i 0 - (Ua l i).getD i 0 / 65536 * 65536)).getD (i + 1) 0 + (Ua l i).getD i 0 / 65536) := by
   show P5 _ _ = _
   unfold P5; rw [if_pos oM]
  have hb1 := hb (i + 1) oM
  have e1 : (Ua l (i + 1)).getD (i + 1) 0 = l.getD (i + 1) 0 + (Ua l i).getD i 0 / 65536 := by
   rw [hs, Uc (by simp; omega), Kq oM, h2 (i + 1) oM]
  refine ⟨fun j hj => ?_, fun j hj => ?_, by rw [e1]; omega, by rw [e1]; omega⟩
  ·rw [hs, Kq oM]
   rcases ay j i with h | h
   ·rw [Kq oM]; exact h1 j h
   have : j = i := by omega
   subst this
   rw [Uc oM]; omega
  rw [hs, Kq oM, Kq oM]; exact h2 j oM
structure GoodR (l : List Int) : Prop where
 len : l.length = 16
 bd : Bd (-100) 66000 l
def Aa (f : Int → Int → Int) (a b : List Int) : Nat → List Int
 | 0 => a
 | i + 1 => (Aa f a b i).set i (f ((Aa f a b i).getD i 0) (b.getD i 0))
theorem Wx (f : Int → Int → Int) (a b : List Int) (i : Nat) : (Aa f a b i).length = a.length := by
 induction i with
 | zero => rfl
 | succ i ih => rw [Aa, cu, ih]
theorem Qee (f : Int → Int → Int) (a b : List Int) : ∀ (i j : Nat), (Aa f a b i).getD j 0 = if j < i ∧ j < a.length then f (a.getD j 0) (b.getD j 0) else a.getD j 0 := by
 intro i
 induction i with
 | zero => intro j; simp [Aa]
 | succ i ih =>
  intro j
  rw [Aa]
  by_cases h : i = j
  ·subst h
   by_cases hl : i < a.length
   ·rw [Uc (by rw [Wx]; exact hl), ih, if_neg oM, if_pos ⟨by omega, hl⟩]
   rw [List.set_eq_of_length_le (by rw [Wx]; omega), ih, if_neg oM, if_neg oM]
  rw [Kq h, ih]
  by_cases hj : j < i ∧ j < a.length
  ·rw [if_pos hj, if_pos ⟨by omega, hj.2⟩]
  rw [if_neg hj, if_neg oM]
def Jw (a b : List Int) : List Int := Qw (Aa (· + ·) a b 16)
def Yt (a b : List Int) : List Int := Qw (Aa (· - ·) a b 16)
def Qe2 (a b : List Int) (i : Nat) (l : List Int) : Nat → List Int
 | 0 => l
 | k + 1 => (Qe2 a b i l k).set (i + k) ((Qe2 a b i l k).getD (i + k) 0 + a.getD i 0 * b.getD k 0)
def Eo (a b : List Int) : Nat → List Int
 | 0 => aA 31 0
 | i + 1 => Qe2 a b i (Eo a b i) 16
theorem Qa1 (a b : List Int) (i : Nat) (l : List Int) (k : Nat) : (Qe2 a b i l k).length = l.length := by
 induction k with
 | zero => rfl
 | succ k ih => rw [Qe2, cu, ih]
theorem L9 (a b : List Int) (i : Nat) : (Eo a b i).length = 31 := by
 induction i with
 | zero => rfl
 | succ i ih => rw [Eo, Qa1, ih]
theorem mul_bd {a b : Int} (ha : -100 ≤ a ∧ a ≤ 66000) (hb : -100 ≤ b ∧ b ≤ 66000) : -4400000000 ≤ a * b ∧ a * b ≤ 4400000000 := by
 have h1 : 0 ≤ (a + 100) * (b + 100) := Int.mul_nonneg oM oM
 have h2 : 0 ≤ (66000 - a) * (b + 100) := Int.mul_nonneg oM oM
 have h3 : 0 ≤ (a + 100) * (66000 - b) := Int.mul_nonneg oM oM
 have h4 : 0 ≤ (66000 - a) * (66000 - b) := Int.mul_nonneg oM oM
 have e1 : (a + 100) * (b + 100) = a * b + 100 * a + 100 * b + 10000 := by grind
 have e2 : (66000 - a) * (b + 100) = 66000 * b + 6600000 - a * b - 100 * a := by grind
 have e3 : (a + 100) * (66000 - b) = 66000 * a + 6600000 - a * b - 100 * b := by grind
 omega
theorem Qr4 {a b : List Int} (ha : GoodR a) (hb : GoodR b) {i : Nat} (hi : i < 16) {l : List Int} (hll : l.length = 31) {M : Int} (hl : ∀ j, -M ≤ l.getD j 0 ∧ l.getD j 0 ≤ M) : ∀ k, k ≤ 16 → ∀ j, -(M + k * 4400000000) ≤ (Qe2 a b i l k).getD j 0 ∧ (Qe2 a b i l k).getD j 0 ≤ M + k * 4400000000 := by
 intro k
 induction k with
 | zero => intro _ j; have := hl j; simp only [Qe2]; omega
 | succ k ih =>
  intro hk j
  have h1 := ih oM j
  have h2 := mul_bd (ha.bd i (by rw [ha.len]; exact hi)) (hb.bd k (by rw [hb.len]; omega))
  rw [Qe2]
  by_cases h : i + k = j
  ·subst h
   rw [Uc (by rw [Qa1]; omega)]
   have e : ((k + 1 : Nat) : Int) * 4400000000 = k * 4400000000 + 4400000000 := by omega
   rw [e]; omega
  rw [Kq h]
  have e : ((k + 1 : Nat) : Int) * 4400000000 = k * 4400000000 + 4400000000 := by omega
  rw [e]; omega
theorem Qfs {a b : List Int} (ha : GoodR a) (hb : GoodR b) : ∀ i : Nat, i ≤ 16 → ∀ j, -((i : Int) * 70400000000) ≤ (Eo a b i).getD j 0 ∧ (Eo a b i).getD j 0 ≤ (i : Int) * 70400000000 := by
 intro i
 induction i with
 | zero =>
  intro _ j
  have : (Eo a b 0).getD j 0 = 0 := by
   simp only [Eo, aI, List.getElem?_replicate]; split <;> rfl
  rw [this]; omega
 | succ i ih =>
  intro hi j
  have := Qr4 ha hb (show i < 16 by omega) (L9 a b i) (M := (i : Int) * 70400000000) (ih oM) 16 oM j
  rw [Eo]; omega
def Rq (t : List Int) (i : Nat) : Int := if i < 15 then t.getD i 0 + 38 * t.getD (i + 16) 0 else t.getD i 0
def Xg (a b : List Int) : List Int := Qw (Qw (Yv (Rq (Eo a b 16)) 0 16 16))
def Qx (u : Z4) : List Int := (Yv (fun i => ((u.getD (2 * i) 0).toNat : Int) + 256 * ((u.getD (2 * i + 1) 0).toNat : Int)) 0 16 16).set 15 ((Yv (fun i => ((u.getD (2 * i) 0).toNat : Int) + 256 * ((u.getD (2 * i + 1) 0).toNat : Int)) 0 16 16).getD 15 0 % 32768)
def Vu (x : List Int) : Nat → List Int
 | 0 => [1, 0, 0, 0, 0, 0, 0, 0, 0, 0, 0, 0, 0, 0, 0, 0]
 | j + 1 => if j = 252 ∨ j = 250 then Xg (Vu x j) (Vu x j) else Xg (Xg (Vu x j) (Vu x j)) x
theorem Qlw {x : List Int} {j : Nat} (h : j = 252 ∨ j = 250) : Xg (Vu x j) (Vu x j) = Vu x (j + 1) := by
 show _ = if j = 252 ∨ j = 250 then _ else _
 rw [if_pos h]
theorem Qqo {x : List Int} {j : Nat} (h : ¬ (j = 252 ∨ j = 250)) : Xg (Xg (Vu x j) (Vu x j)) x = Vu x (j + 1) := by
 show _ = if j = 252 ∨ j = 250 then _ else _
 rw [if_neg h]
theorem Qo7 (x : List Int) : Vu x 0 = [1, 0, 0, 0, 0, 0, 0, 0, 0, 0, 0, 0, 0, 0, 0, 0] := rfl
def Wl : List Int → Int → List Int × Int
 | [], c => ([], c)
 | a :: r, c => (((a + c) % 65536) :: (Wl r ((a + c) / 65536)).1, (Wl r ((a + c) / 65536)).2)
theorem Qas : ∀ (l : List Int) (c : Int), (Wl l c).1.length = l.length
 | [], _ => rfl
 | a :: r, c => by simp [Wl, Qas r]
theorem Qbg : ∀ (l m : List Int) (c : Int), Wl (l ++ m) c = ((Wl l c).1 ++ (Wl m (Wl l c).2).1, (Wl m (Wl l c).2).2)
 | [], m, c => rfl
 | a :: r, m, c => by simp [Wl, Qbg r m]
def Qjb (c : Int) : List Int → List Int
 | [] => []
 | a :: r => (a + c) :: r
theorem Qum {l : List Int} (hl : l.length = 16) : ∀ i, i ≤ 15 → Ua l i = (Wl (l.take i) 0).1 ++ Qjb (Wl (l.take i) 0).2 (l.drop i) := by
 intro i
 induction i with
 | zero =>
  intro _
  simp only [Ua, List.take_zero, Wl, aX, List.drop_zero]
  cases l with
  | nil => rfl
  | cons a r => simp [Qjb]
 | succ i ih =>
  intro hi
  have hi1 : i < l.length := by omega
  have hi2 : i + 1 < l.length := by omega
  have hd : l.drop i = l[i] :: l.drop (i + 1) := List.drop_eq_getElem_cons hi1
  have hd2 : l.drop (i + 1) = l[i + 1] :: l.drop (i + 2) := List.drop_eq_getElem_cons hi2
  have ht : l.take (i + 1) = l.take i ++ [l[i]] := (List.take_append_getElem hi1).symm
  have hlen : (Wl (l.take i) 0).1.length = i := by rw [Qas, List.length_take]; omega
  show P5 (Ua l i) i = _
  rw [ih oM, hd, hd2, ht, Qbg]
  generalize hD : (Wl (l.take i) 0).1 = D at *
  generalize (Wl (l.take i) 0).2 = c at *
  simp only [Qjb, Wl, List.append_nil]
  have g1 : (D ++ (l[i] + c) :: l[i + 1] :: l.drop (i + 2)).getD i 0 = l[i] + c := by simp [aI, hlen]
  unfold P5
  rw [if_pos oM, g1]
  have g2 : (D ++ (l[i] + c) :: l[i + 1] :: l.drop (i + 2)).set i (l[i] + c - (l[i] + c) / 65536 * 65536) = D ++ ((l[i] + c) % 65536) :: l[i + 1] :: l.drop (i + 2) := by
   rw [List.set_append_right _ _ oM, hlen, Nat.sub_self, List.set_cons_zero]
   congr 2; omega
  rw [g2]
  have g3 : (D ++ (l[i] + c) % 65536 :: l[i + 1] :: l.drop (i + 2)).getD (i + 1) 0 = l[i + 1] := by
   simp only [aI]
   rw [List.getElem?_append_right oM, hlen]
   simp [hi2]
  rw [g3, List.set_append_right _ _ oM, hlen, show i + 1 - i = 1 by omega]
  simp only [List.set_cons_succ, List.set_cons_zero, List.append_assoc, List.cons_append, aX]
theorem Qa9 {l : List Int} (hl : l.length = 16) : ∃ d0 D, Wl l 0 = (d0 :: D, (Wl l 0).2) ∧ Qw l = (d0 + 38 * (Wl l 0).2) :: D := by
 have h15 := Qum hl 15 oM
 have hi : 15 < l.length := by omega
 have hd : l.drop 15 = [l[15]] := by
  rw [List.drop_eq_getElem_cons hi, List.drop_eq_nil_of_le oM]
 have ht : l = l.take 15 ++ [l[15]] := by
  conv => lhs; rw [← List.take_append_drop 15 l]
  rw [hd]
 have hlen : (Wl (l.take 15) 0).1.length = 15 := by rw [Qas, List.length_take]; omega
 have hc : Wl l 0 = ((Wl (l.take 15) 0).1 ++ [(l[15] + (Wl (l.take 15) 0).2) % 65536], (l[15] + (Wl (l.take 15) 0).2) / 65536) := by
  conv => lhs; rw [ht, Qbg]
  rfl
 have hk : Qw l = P5 (Ua l 15) 15 := rfl
 rw [hk, h15, hd, hc]
 simp only [Qjb]
 generalize (Wl (l.take 15) 0).1 = D at *
 generalize (Wl (l.take 15) 0).2 = c at *
 have g1 : (D ++ [l[15] + c]).getD 15 0 = l[15] + c := by simp [aI, hlen]
 have g2 : (D ++ [l[15] + c]).set 15 (l[15] + c - (l[15] + c) / 65536 * 65536) = D ++ [(l[15] + c) % 65536] := by
  rw [List.set_append_right _ _ oM, hlen]
  simp; omega
 unfold P5
 rw [if_neg oM, g1, g2]
 cases D with
 | nil => simp at hlen
 | cons d0 D => exact ⟨d0, D ++ [(l[15] + c) % 65536], rfl, by simp⟩
theorem Rj : ∀ (l : List Int) (c : Int), ∀ d ∈ (Wl l c).1, 0 ≤ d ∧ d ≤ 65535
 | [], _, d, h => by simp [Wl] at h
 | a :: r, c, d, h => by
  simp only [Wl, List.mem_cons] at h
  rcases h with rfl | h
  ·omega
  exact Rj r _ d h
theorem Qcm {lo hi A B : Int} (h1 : 65536 * lo ≤ A + lo) (h2 : B + hi < 65536 * (hi + 1)) : ∀ (l : List Int) (c : Int), (∀ a ∈ l, A ≤ a ∧ a ≤ B) → lo ≤ c → c ≤ hi → lo ≤ (Wl l c).2 ∧ (Wl l c).2 ≤ hi
 | [], c, _, h3, h4 => ⟨h3, h4⟩
 | a :: r, c, h, h3, h4 => by
  have := h a Ya
  exact Qcm h1 h2 r ((a + c) / 65536) (fun b hb => h b (by simp [hb])) oM oM
theorem Qrx {A B : Int} {l : List Int} (h : Bd A B l) : ∀ a ∈ l, A ≤ a ∧ a ≤ B := by
 intro a ha
 obtain ⟨i, hi, rfl⟩ := List.getElem_of_mem ha
 have := h i hi
 simpa [aI, hi] using this
theorem Qap {A B : Int} {l : List Int} (h : ∀ a ∈ l, A ≤ a ∧ a ≤ B) : Bd A B l := by
 intro j hj
 have := h l[j] Ya
 simpa [aI, hj] using this
theorem Qec {lo hi A B : Int} {l : List Int} (hl : l.length = 16) (hb : Bd A B l) (h1 : 65536 * lo ≤ A + lo) (h2 : B + hi < 65536 * (hi + 1)) (h3 : lo ≤ 0) (h4 : 0 ≤ hi) :
  ∃ d0 D, Qw l = d0 :: D ∧ D.length = 15 ∧ 38 * lo ≤ d0 ∧ d0 ≤ 65535 + 38 * hi ∧ ∀ d ∈ D, 0 ≤ d ∧ d ≤ 65535 := by
 obtain ⟨d0, D, e1, e2⟩ := Qa9 hl
 have hd := Rj l 0
 have ho := Qcm h1 h2 l 0 (Qrx hb) h3 h4
 have hlen := Qas l 0
 rw [e1] at hd hlen
 have := hd d0 Ya
 refine ⟨_, D, e2, by simp at hlen; omega, by omega, by omega, fun d h => hd d (by simp [h])⟩
theorem Qdk {lo hi A B : Int} {l : List Int} (hl : l.length = 16) (hb : Bd A B l) (h1 : 65536 * lo ≤ A + lo) (h2 : B + hi < 65536 * (hi + 1)) (h3 : lo ≤ 0) (h4 : 0 ≤ hi) (h5 : -2 ≤ lo) (h6 : hi ≤ 2) : GoodR (Qw l) := by
 obtain ⟨d0, D, e, hD, k1, k2, k3⟩ := Qec hl hb h1 h2 h3 h4
 refine ⟨by rw [U9]; exact hl, Qap fun a ha => ?_⟩
 rw [e] at ha
 rcases List.mem_cons.1 ha with rfl | ha
 ·omega
 have := k3 a ha; omega
theorem Qks {f : Int → Int → Int} {a b : List Int} {A B : Int} (ha : GoodR a) (hb : GoodR b) (h : ∀ x y, -100 ≤ x ∧ x ≤ 66000 → -100 ≤ y ∧ y ≤ 66000 → A ≤ f x y ∧ f x y ≤ B) : Bd A B (Aa f a b 16) := by
 intro j hj
 rw [Wx, ha.len] at hj
 rw [Qee, if_pos ⟨hj, by rw [ha.len]; exact hj⟩]
 exact h _ _ (ha.bd j (by rw [ha.len]; exact hj)) (hb.bd j (by rw [hb.len]; exact hj))
theorem Zv {a b : List Int} (ha : GoodR a) (hb : GoodR b) : GoodR (Jw a b) :=
 Qdk (lo := -1) (hi := 2) (by rw [Wx, ha.len]) (Qks (A := -200) (B := 132000) ha hb (by intro x y hx hy; show -200 ≤ x + y ∧ x + y ≤ 132000; omega)) oM oM oM oM oM oM
theorem Zk {a b : List Int} (ha : GoodR a) (hb : GoodR b) : GoodR (Yt a b) :=
 Qdk (lo := -2) (hi := 1) (by rw [Wx, ha.len]) (Qks (A := -66100) (B := 66100) ha hb (by intro x y hx hy; show -66100 ≤ x - y ∧ x - y ≤ 66100; omega)) oM oM oM oM oM oM
theorem Qm5 {a b : List Int} (ha : GoodR a) (hb : GoodR b) : Bd (-100000000000000) 100000000000000 (Yv (Rq (Eo a b 16)) 0 16 16) := by
 intro j hj
 rw [J8 _ _ _ _ (di _)] at hj
 have e : (Yv (Rq (Eo a b 16)) 0 16 16).getD j 0 = Rq (Eo a b 16) j := by
  rw [Af]; simp [aI, hj]
 rw [e]
 have h1 := Qfs ha hb 16 oM j
 have h2 := Qfs ha hb 16 oM (j + 16)
 unfold Rq; split <;> omega
theorem Rx (a c : Int) (r : List Int) : (Wl (a :: r) c).2 = (Wl r ((a + c) / 65536)).2 := rfl
theorem Qp2 {a c K M : Int} (h : 0 ≤ a ∧ a ≤ 65535) (h1 : -K ≤ c) (h2 : c ≤ K) (hM : K + 65536 ≤ 65536 * M) : -M ≤ (a + c) / 65536 ∧ (a + c) / 65536 ≤ M := by omega
theorem Qp3 {d0 : Int} {D : List Int} (hD : D.length = 15) (h1 : -100000000000000000 ≤ d0) (h2 : d0 ≤ 100000000000000000) (h3 : ∀ d ∈ D, 0 ≤ d ∧ d ≤ 65535) : -1 ≤ (Wl (d0 :: D) 0).2 ∧ (Wl (d0 :: D) 0).2 ≤ 1 := by
 match D, hD, h3 with
 | d1 :: d2 :: d3 :: d4 :: r, hD, h3 =>
  rw [Rx, Rx, Rx, Rx, Rx]
  have c0 : -2000000000000 ≤ (d0 + 0) / 65536 ∧ (d0 + 0) / 65536 ≤ 2000000000000 := by omega
  have c1 := Qp2 (M := 40000000) (h3 d1 Ya) c0.1 c0.2 Yx
  have c2 := Qp2 (M := 1000) (h3 d2 Ya) c1.1 c1.2 Yx
  have c3 := Qp2 (M := 2) (h3 d3 Ya) c2.1 c2.2 Yx
  have i4 := h3 d4 Ya
  have c4 : -1 ≤ (d4 + (d3 + (d2 + (d1 + (d0 + 0) / 65536) / 65536) / 65536) / 65536) / 65536 ∧ (d4 + (d3 + (d2 + (d1 + (d0 + 0) / 65536) / 65536) / 65536) / 65536) / 65536 ≤ 1 := by
   obtain ⟨k1, k2⟩ := c3
   clear c0 c1 c2
   generalize (d3 + (d2 + (d1 + (d0 + 0) / 65536) / 65536) / 65536) / 65536 = x at k1 k2 ⊢
   omega
  exact Qcm (lo := -1) (hi := 1) (A := 0) (B := 65535) Yx Yx r _ (fun a ha => h3 a (by simp [ha])) c4.1 c4.2
theorem Qnf {d0 : Int} {D : List Int} (hD : D.length = 15) (h1 : -100000000000000000 ≤ d0) (h2 : d0 ≤ 100000000000000000) (h3 : ∀ d ∈ D, 0 ≤ d ∧ d ≤ 65535) : GoodR (Qw (d0 :: D)) := by
 have ho := Qp3 hD h1 h2 h3
 obtain ⟨e0, E, q1, q2⟩ := Qa9 (l := d0 :: D) (by simp [hD])
 have hd := Rj (d0 :: D) 0
 rw [q1] at hd
 have := hd e0 Ya
 refine ⟨by rw [U9]; simp [hD], Qap fun a ha => ?_⟩
 rw [q2] at ha
 rcases List.mem_cons.1 ha with h | ha
 ·omega
 have := hd a (by simp [ha]); omega
theorem Zf {a b : List Int} (ha : GoodR a) (hb : GoodR b) : GoodR (Xg a b) := by
 obtain ⟨d0, D, e, hD, k1, k2, k3⟩ := Qec (lo := -100000000000000) (hi := 100000000000000) (J8 _ _ _ _ (di _)) (Qm5 ha hb) oM oM oM oM
 unfold Xg
 rw [e]
 exact Qnf hD oM oM k3
theorem bd_carry {a b : List Int} (ha : GoodR a) (hb : GoodR b) : Bd (-1000000000000000) 1000000000000000 (Yv (Rq (Eo a b 16)) 0 16 16) := fun j hj => by have := Qm5 ha hb j hj; omega
theorem Quz {a b : List Int} (ha : GoodR a) (hb : GoodR b) : Bd (-1000000000000000) 1000000000000000 (Qw (Yv (Rq (Eo a b 16)) 0 16 16)) := by
 obtain ⟨d0, D, e, hD, k1, k2, k3⟩ := Qec (lo := -2000000000) (hi := 2000000000) (J8 _ _ _ _ (di _)) (Qm5 ha hb) oM oM oM oM
 rw [e]
 refine Qap fun x hx => ?_
 rcases List.mem_cons.1 hx with rfl | hx
 ·omega
 have := k3 x hx; omega
theorem GoodR.wide {l : List Int} (h : GoodR l) : Bd (-1000000000000000) 1000000000000000 l := fun j hj => by have := h.bd j hj; omega
theorem Qkr {f : Int → Int → Int} {a b : List Int} (ha : GoodR a) (hb : GoodR b) (h : ∀ x y, -100 ≤ x ∧ x ≤ 66000 → -100 ≤ y ∧ y ≤ 66000 → -1000000000000000 ≤ f x y ∧ f x y ≤ 1000000000000000) : Bd (-1000000000000000) 1000000000000000 (Aa f a b 16) := Qks ha hb h
theorem Qd6 : GoodR [1, 0, 0, 0, 0, 0, 0, 0, 0, 0, 0, 0, 0, 0, 0, 0] := ⟨rfl, Qap Yx⟩
theorem Na : GoodR [56129, 1, 0, 0, 0, 0, 0, 0, 0, 0, 0, 0, 0, 0, 0, 0] := ⟨rfl, Qap Yx⟩
theorem Py {x : List Int} (h : GoodR x) : ∀ j, GoodR (Vu x j)
 | 0 => Qd6
 | j + 1 => by
  unfold Vu; split
  ·exact Zf (Py h j) (Py h j)
  exact Zf (Zf (Py h j) (Py h j)) h
theorem Qsb (u : Z4) : 0 ≤ (Yv (fun i => ((u.getD (2 * i) 0).toNat : Int) + 256 * ((u.getD (2 * i + 1) 0).toNat : Int)) 0 16 16).getD 15 0 ∧ (Yv (fun i => ((u.getD (2 * i) 0).toNat : Int) + 256 * ((u.getD (2 * i + 1) 0).toNat : Int)) 0 16 16).getD 15 0 ≤ 65535 := by
 have h1 := (u.getD (2 * 15) 0).isLt
 have h2 := (u.getD (2 * 15 + 1) 0).isLt
 have e : (Yv (fun i => ((u.getD (2 * i) 0).toNat : Int) + 256 * ((u.getD (2 * i + 1) 0).toNat : Int)) 0 16 16).getD 15 0 = ((u.getD (2 * 15) 0).toNat : Int) + 256 * ((u.getD (2 * 15 + 1) 0).toNat : Int) := rfl
 rw [e]; omega
theorem Qpy (x : Int) : (((aB 64 x).toNat &&& (1 : Int).toNat : Nat) : Int) = x % 2 := by
 have h : (aB 64 x).toNat &&& (1 : Int).toNat = (aB 64 x).toNat % 2 := Nat.and_two_pow_sub_one_eq_mod _ 1
 rw [h, bU]; omega
theorem Qgz (x : Int) : (((aB 64 x).toNat &&& (65535 : Int).toNat : Nat) : Int) = x % 65536 := by
 have h : (aB 64 x).toNat &&& (65535 : Int).toNat = (aB 64 x).toNat % 65536 := Nat.and_two_pow_sub_one_eq_mod _ 16
 rw [h, bU]; omega
theorem Hf {l : List Int} (h : GoodR l) : GoodR (Qw l) :=
 Qdk (lo := -1) (hi := 1) h.len h.bd oM oM oM oM oM oM
def Qbu (a m : List Int) (j : Nat) : List Int :=
 (m.set (j + 1) (a.getD (j + 1) 0 - (if j = 14 then 32767 else 65535) - m.getD j 0 / 65536 % 2)).set j ((m.set (j + 1) (a.getD (j + 1) 0 - (if j = 14 then 32767 else 65535) - m.getD j 0 / 65536 % 2)).getD j 0 % 65536)
def mG (a : List Int) : Nat → List Int
 | 0 => (aA 16 0).set 0 (a.getD 0 0 - 65517)
 | j + 1 => Qbu a (mG a j) j
theorem mG_zero (a : List Int) : mG a 0 = (aA 16 0).set 0 (a.getD 0 0 - 65517) := rfl
theorem Bf (a : List Int) (j : Nat) : (mG a j).length = 16 := by
 induction j with
 | zero => rfl
 | succ j ih => simp [mG, Qbu, ih]
theorem Qqj {a : List Int} (ha : GoodR a) : ∀ j : Nat, j ≤ 15 → (∀ i, i < j → 0 ≤ (mG a j).getD i 0 ∧ (mG a j).getD i 0 ≤ 65535) ∧ -100000 ≤ (mG a j).getD j 0 ∧ (mG a j).getD j 0 ≤ 66000 := by
 intro j
 induction j with
 | zero =>
  intro _
  have h := ha.bd 0 (by rw [ha.len]; omega)
  have e : (mG a 0).getD 0 0 = a.getD 0 0 - 65517 := rfl
  exact ⟨fun i hi => by omega, by rw [e]; omega, by rw [e]; omega⟩
 | succ j ih =>
  intro hj
  obtain ⟨h1, h2, h3⟩ := ih oM
  have h := ha.bd (j + 1) (by rw [ha.len]; omega)
  have hl := Bf a j
  have e0 : ((mG a j).set (j + 1) (a.getD (j + 1) 0 - (if j = 14 then 32767 else 65535) - (mG a j).getD j 0 / 65536 % 2)).getD j 0 = (mG a j).getD j 0 := Kq oM
  have e1 : (mG a (j + 1)).getD (j + 1) 0 = a.getD (j + 1) 0 - (if j = 14 then 32767 else 65535) - (mG a j).getD j 0 / 65536 % 2 := by
   show (Qbu _ _ _).getD _ _ = _
   unfold Qbu
   rw [Kq oM, Uc oM]
  refine ⟨fun i hi => ?_, by rw [e1]; split <;> omega, by rw [e1]; split <;> omega⟩
  show 0 ≤ (Qbu _ _ _).getD _ _ ∧ (Qbu _ _ _).getD _ _ ≤ _
  unfold Qbu
  by_cases hij : j = i
  ·subst hij
   rw [Uc (by simp; omega)]; omega
  rw [Kq hij, Kq oM]; exact h1 i oM
def Qim (a : List Int) : List Int := if 0 ≤ (mG a 15).getD 15 0 then mG a 15 else a
theorem Qt8 {a : List Int} (ha : GoodR a) : GoodR (Qim a) := by
 unfold Qim; split
 ·rename_i h
  obtain ⟨h1, h2, h3⟩ := Qqj ha 15 oM
  refine ⟨Bf a 15, fun j hj => ?_⟩
  rw [Bf] at hj
  rcases ay j 15 with hlt | hge
  ·have := h1 j hlt; omega
  have : j = 15 := by omega
  subst this; omega
 exact ha
def Vh (a : List Int) : Nat → List Int
 | 0 => a
 | n + 1 => Qim (Vh a n)
theorem Qtr (a : List Int) : Vh a 0 = a := rfl
theorem Qlx {a : List Int} (ha : GoodR a) : ∀ n, GoodR (Vh a n)
 | 0 => ha
 | n + 1 => Qt8 (Qlx ha n)
def Qij (a : List Int) : Nat → Z4
 | 0 => aA 32 0
 | i + 1 => ((Qij a i).set (2 * i) (aB 8 (a.getD i 0))).set (2 * i + 1) (aB 8 (a.getD i 0 / 256))
theorem Qtd (a : List Int) : Qij a 0 = aA 32 0 := rfl
theorem Qld (a : List Int) (i : Nat) : Qij a (i + 1) = ((Qij a i).set (2 * i) (aB 8 (a.getD i 0))).set (2 * i + 1) (aB 8 (a.getD i 0 / 256)) := rfl
theorem L6 (a : List Int) (i : Nat) : (Qij a i).length = 32 := by
 induction i with
 | zero => rfl
 | succ i ih => rw [Qij, cu, cu, ih]
def Qcq (a : List Int) : Z4 := Qij (Vh (Qw (Qw (Qw a))) 2) 16
@[simp] theorem Qla (a : List Int) : (Qcq a).length = 32 := L6 _ _
theorem Qdz (u : Z4) : (Qx u).length = 16 := by unfold Qx; rw [cu]; exact J8 _ _ _ _ (di _)
theorem Qcj (u : Z4) : GoodR (Qx u) := by
 refine ⟨Qdz u, fun j hj => ?_⟩
 rw [Qdz] at hj
 unfold Qx
 by_cases h : 15 = j
 ·subst h
  rw [Uc (by rw [J8 _ _ _ _ (di _)]; omega)]
  have := Qsb u; omega
 rw [Kq h, Af]
 have h1 := (u.getD (2 * j) 0).isLt
 have h2 := (u.getD (2 * j + 1) 0).isLt
 have e : ((List.range 16).map fun i => ((u.getD (2 * i) 0).toNat : Int) + 256 * ((u.getD (2 * i + 1) 0).toNat : Int)).getD j 0 = ((u.getD (2 * j) 0).toNat : Int) + 256 * ((u.getD (2 * j + 1) 0).toNat : Int) := by
  simp [aI, hj]
 rw [e]; omega
end Go.Proofs.YtkmiemlpfkfiiaaDoor
