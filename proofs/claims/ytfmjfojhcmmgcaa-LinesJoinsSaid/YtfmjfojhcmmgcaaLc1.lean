/- CR LF in bytes: plain law, and bytes.Cut at this program. Conditions: none beyond those that each theorem states. -/
import Derived.Test.YtfmjfojhcmmgcaaTab
import Derived.Test.YtfmjfojhcmmgcaaFwL
import Derived.Test.YtfmjfojhcmmgcaaFwV
import Derived.Shelf.Vars
import Derived.Shelf.Bytes.SlCut
namespace Go.Proofs.Ytfmjfojhcmmgcaa
set_option linter.unusedVariables false
set_option linter.unusedSimpArgs false
open Go.Shelf
theorem drop_cons' {l : List (BitVec 8)} {k : Nat} (h : k < l.length) : l.drop k = l.getD k 0 :: l.drop (k + 1) := by
  rw [List.drop_eq_getElem_cons h]; simp [List.getD_eq_getElem?_getD, h]
theorem head_drop {l : List (BitVec 8)} {k : Nat} (h : k < l.length) : (l.drop k).head? = some (l.getD k 0) := by rw [drop_cons' h]; rfl
theorem head_drop_end {l : List (BitVec 8)} {k : Nat} (h : ¬ k < l.length) : (l.drop k).head? = none := by rw [List.drop_of_length_le oM]; rfl
/-! ### Whole lines' ends -/
def whP (q : BitVec 8) : List (BitVec 8) → List (BitVec 8)
  | [] => []
  | c :: r => if c = 10#8 ∧ q ≠ 13#8 then 13#8 :: 10#8 :: whP 10#8 r
    else if c = 13#8 ∧ r.head? ≠ some 10#8 then 13#8 :: 10#8 :: whP 10#8 r
    else c :: whP c r
def whR (p : BitVec 8) : List (BitVec 8) → List (BitVec 8)
  | [] => []
  | c :: r => if c = 10#8 ∧ p ≠ 13#8 then 13#8 :: 10#8 :: whR c r
    else if c = 13#8 ∧ r.head? ≠ some 10#8 then 13#8 :: 10#8 :: whR c r
    else c :: whR c r
def wholeB (l : List (BitVec 8)) : List (BitVec 8) := whP 0 l
theorem whP_whR : ∀ (l : List (BitVec 8)) (q p : BitVec 8), (q = p ∨ (q = 10#8 ∧ p = 13#8 ∧ l.head? ≠ some 10#8)) → whP q l = whR p l
  | [], _, _, _ => rfl
  | c :: r, q, p, h => by
    unfold whP whR
    have hc : (c = 10#8 ∧ q ≠ 13#8) ↔ (c = 10#8 ∧ p ≠ 13#8) := by
      rcases h with rfl | ⟨rfl, rfl, h⟩
      · exact Iff.rfl
      · constructor <;> rintro ⟨rfl, _⟩ <;> exact absurd rfl h
    by_cases h1 : c = 10#8 ∧ p ≠ 13#8
    · rw [if_pos (hc.2 h1), if_pos h1, whP_whR r _ c (.inl h1.1.symm)]
    · rw [if_neg (fun e => h1 (hc.1 e)), if_neg h1]
      by_cases h2 : c = 13#8 ∧ r.head? ≠ some 10#8
      · rw [if_pos h2, if_pos h2, whP_whR r _ c (.inr ⟨rfl, h2.1, h2.2⟩)]
      · rw [if_neg h2, if_neg h2, whP_whR r _ c (.inl rfl)]
theorem whole_eq (l : List (BitVec 8)) : whR 0 l = wholeB l := (whP_whR l 0 0 (.inl rfl)).symm
theorem whP_length : ∀ (l : List (BitVec 8)) (q : BitVec 8), l.length ≤ (whP q l).length ∧ (whP q l).length ≤ 2 * l.length
  | [], _ => ⟨Nat.le_refl _, Nat.le_refl _⟩
  | c :: r, q => by
    unfold whP
    have := whP_length r 10#8; have := whP_length r c
    split
    · simp only [List.length_cons]; omega
    · split <;> simp only [List.length_cons] <;> omega
theorem wholeB_length (l : List (BitVec 8)) : l.length ≤ (wholeB l).length ∧ (wholeB l).length ≤ 2 * l.length := whP_length l 0
theorem wh_A {l o : List (BitVec 8)} {q : BitVec 8} {k : Nat} {t : List (BitVec 8)} (ho : o ++ whP q (l.drop k) = t) (hk : k < l.length) (h1 : l.getD k 0 = 10#8) (h2 : q ≠ 13#8) : o ++ [13#8] ++ [l.getD k 0] ++ whP (l.getD k 0) (l.drop (k + 1)) = t := by
  rw [← ho, drop_cons' hk, h1, whP, if_pos ⟨rfl, h2⟩]; simp
theorem wh_B {l o : List (BitVec 8)} {q : BitVec 8} {k : Nat} {t : List (BitVec 8)} (ho : o ++ whP q (l.drop k) = t) (hk : k < l.length) (h1 : l.getD k 0 = 13#8) (h2 : k + 1 < l.length → l.getD (k + 1) 0 ≠ 10#8) : o ++ [l.getD k 0] ++ [10#8] ++ whP 10#8 (l.drop (k + 1)) = t := by
  have hn : ¬ ((13#8 : BitVec 8) = 10#8 ∧ q ≠ 13#8) := fun e => absurd e.1 (by decide)
  have hh : (l.drop (k + 1)).head? ≠ some 10#8 := by
    by_cases hl : k + 1 < l.length
    · rw [head_drop hl]; intro e; exact h2 hl (by injection e)
    · rw [head_drop_end hl]; simp
  rw [← ho, drop_cons' hk, h1, whP, if_neg hn, if_pos ⟨rfl, hh⟩]; simp
theorem wh_C {l o : List (BitVec 8)} {q : BitVec 8} {k : Nat} {t : List (BitVec 8)} (ho : o ++ whP q (l.drop k) = t) (hk : k < l.length) (h1 : l.getD k 0 = 10#8 → q = 13#8) (h2 : l.getD k 0 = 13#8 → k + 1 < l.length ∧ l.getD (k + 1) 0 = 10#8) : o ++ [l.getD k 0] ++ whP (l.getD k 0) (l.drop (k + 1)) = t := by
  have hn : ¬ (l.getD k 0 = 10#8 ∧ q ≠ 13#8) := fun e => e.2 (h1 e.1)
  have hm : ¬ (l.getD k 0 = 13#8 ∧ (l.drop (k + 1)).head? ≠ some 10#8) := fun e => by
    obtain ⟨a, b⟩ := h2 e.1
    exact e.2 (by rw [head_drop a, b])
  rw [← ho, drop_cons' hk, whP, if_neg hn, if_neg hm]; simp
def prevB (l : List (BitVec 8)) (k : Nat) : BitVec 8 := if k = 0 then 0 else l.getD (k - 1) 0
theorem prevB_succ (l : List (BitVec 8)) (k : Nat) : prevB l (k + 1) = l.getD k 0 := by simp [prevB]
theorem rw_A {l o : List (BitVec 8)} {k : Nat} {t : List (BitVec 8)} (ho : o ++ whR (prevB l k) (l.drop k) = t) (hk : k < l.length) (h1 : l.getD k 0 = 10#8) (h2 : k = 0 ∨ l.getD (k - 1) 0 ≠ 13#8) : o ++ [13#8, 10#8] ++ whR (prevB l (k + 1)) (l.drop (k + 1)) = t := by
  have hq : prevB l k ≠ 13#8 := by
    unfold prevB; split
    · decide
    · exact h2.resolve_left (by assumption)
  rw [← ho, drop_cons' hk, prevB_succ, h1, whR, if_pos ⟨rfl, hq⟩]; simp
theorem rw_B {l o : List (BitVec 8)} {k : Nat} {t : List (BitVec 8)} (ho : o ++ whR (prevB l k) (l.drop k) = t) (hk : k < l.length) (h1 : l.getD k 0 = 13#8) (h2 : k + 1 < l.length → l.getD (k + 1) 0 ≠ 10#8) : o ++ [13#8, 10#8] ++ whR (prevB l (k + 1)) (l.drop (k + 1)) = t := by
  have hn : ¬ ((13#8 : BitVec 8) = 10#8 ∧ prevB l k ≠ 13#8) := fun e => absurd e.1 (by decide)
  have hh : (l.drop (k + 1)).head? ≠ some 10#8 := by
    by_cases hl : k + 1 < l.length
    · rw [head_drop hl]; intro e; exact h2 hl (by injection e)
    · rw [head_drop_end hl]; simp
  rw [← ho, drop_cons' hk, prevB_succ, h1, whR, if_neg hn, if_pos ⟨rfl, hh⟩]; simp
theorem rw_C {l o : List (BitVec 8)} {k : Nat} {t : List (BitVec 8)} (ho : o ++ whR (prevB l k) (l.drop k) = t) (hk : k < l.length) (h1 : l.getD k 0 = 10#8 → k ≠ 0 ∧ l.getD (k - 1) 0 = 13#8) (h2 : l.getD k 0 = 13#8 → k + 1 < l.length ∧ l.getD (k + 1) 0 = 10#8) : o ++ [l.getD k 0] ++ whR (prevB l (k + 1)) (l.drop (k + 1)) = t := by
  have hn : ¬ (l.getD k 0 = 10#8 ∧ prevB l k ≠ 13#8) := fun e => by
    obtain ⟨a, b⟩ := h1 e.1
    exact e.2 (by rw [prevB, if_neg a, b])
  have hm : ¬ (l.getD k 0 = 13#8 ∧ (l.drop (k + 1)).head? ≠ some 10#8) := fun e => by
    obtain ⟨a, b⟩ := h2 e.1
    exact e.2 (by rw [head_drop a, b])
  rw [← ho, drop_cons' hk, prevB_succ, whR, if_neg hn, if_neg hm]; simp
/-- No CR and no LF by itself. -/
def okW (p : BitVec 8) : List (BitVec 8) → Prop
  | [] => True
  | c :: r => (c = 10#8 → p = 13#8) ∧ (c = 13#8 → r.head? = some 10#8) ∧ okW c r
theorem okW_wh : ∀ (l : List (BitVec 8)) (q : BitVec 8), okW q (whP q l)
  | [], _ => trivial
  | c :: r, q => by
    unfold whP
    split
    · refine ⟨fun e => absurd e (by decide), fun _ => rfl, fun _ => rfl, fun e => absurd e (by decide), okW_wh r _⟩
    · rename_i h1
      split
      · refine ⟨fun e => absurd e (by decide), fun _ => rfl, fun _ => rfl, fun e => absurd e (by decide), okW_wh r _⟩
      · rename_i h2
        refine ⟨fun e => ?_, fun e => ?_, okW_wh r _⟩
        · by_cases hq : q = 13#8
          · exact hq
          · exact absurd ⟨e, hq⟩ h1
        · by_cases hr : r.head? = some 10#8
          · subst e
            match r, hr with
            | d :: r', hr =>
              have : d = 10#8 := by simpa using hr
              subst this
              rw [whP, if_neg (fun e => e.2 rfl), if_neg (fun e => absurd e.1 (by decide))]; rfl
          · exact absurd ⟨e, hr⟩ h2
theorem wh_id : ∀ (l : List (BitVec 8)) (q : BitVec 8), okW q l → whP q l = l
  | [], _, _ => rfl
  | c :: r, q, h => by
    unfold whP
    rw [if_neg (fun e => e.2 (h.1 e.1)), if_neg (fun e => e.2 (h.2.1 e.1)), wh_id r c h.2.2]
theorem whole_whole (l : List (BitVec 8)) : wholeB (wholeB l) = wholeB l := wh_id _ _ (okW_wh l 0)
theorem okW_at : ∀ (l : List (BitVec 8)) (q : BitVec 8) (i : Nat), okW q l → i < l.length → (l.getD i 0 = 10#8 → (i = 0 ∧ q = 13#8) ∨ (i ≠ 0 ∧ l.getD (i - 1) 0 = 13#8)) ∧ (l.getD i 0 = 13#8 → i + 1 < l.length ∧ l.getD (i + 1) 0 = 10#8)
  | [], _, _, _, hi => by simp at hi
  | c :: r, q, 0, h, _ => by
    refine ⟨fun e => .inl ⟨rfl, h.1 e⟩, fun e => ?_⟩
    have := h.2.1 e
    match r, this with
    | d :: r', hd => exact ⟨by simp, by simpa using hd⟩
  | c :: r, q, i + 1, h, hi => by
    obtain ⟨a, b⟩ := okW_at r c i h.2.2 (by simpa using hi)
    refine ⟨fun e => .inr ⟨by omega, ?_⟩, fun e => ?_⟩
    · rcases a e with ⟨rfl, hq⟩ | ⟨h0, hq⟩
      · exact hq
      · obtain ⟨j, rfl⟩ : ∃ j, i = j + 1 := ⟨i - 1, by omega⟩
        exact hq
    · obtain ⟨b1, b2⟩ := b e
      exact ⟨by simpa using b1, b2⟩
theorem whole_at (l : List (BitVec 8)) {i : Nat} (hi : i < (wholeB l).length) : ((wholeB l).getD i 0 = 10#8 → i ≠ 0 ∧ (wholeB l).getD (i - 1) 0 = 13#8) ∧ ((wholeB l).getD i 0 = 13#8 → i + 1 < (wholeB l).length ∧ (wholeB l).getD (i + 1) 0 = 10#8) := by
  obtain ⟨a, b⟩ := okW_at (wholeB l) 0 i (okW_wh l 0) hi
  exact ⟨fun e => (a e).resolve_left (fun h => absurd h.2 (by decide)), b⟩
/-! ### Lines -/
def splF : List (BitVec 8) → List (BitVec 8) → List (List (BitVec 8)) × List (BitVec 8)
  | cur, [] => ([], cur)
  | cur, [c] => ([], cur ++ [c])
  | cur, c :: d :: r => if c = 13#8 ∧ d = 10#8 then (cur :: (splF [] r).1, (splF [] r).2) else splF (cur ++ [c]) (d :: r)
theorem splF_cc (cur : List (BitVec 8)) (c d : BitVec 8) (r : List (BitVec 8)) : splF cur (c :: d :: r) = if c = 13#8 ∧ d = 10#8 then (cur :: (splF [] r).1, (splF [] r).2) else splF (cur ++ [c]) (d :: r) := by rw [splF]
def linesB (l : List (BitVec 8)) : List (List (BitVec 8)) := (splF [] l).1
def restB (l : List (BitVec 8)) : List (BitVec 8) := (splF [] l).2
def joinL (ls : List (List (BitVec 8))) : List (BitVec 8) := ls.flatMap (· ++ [13#8, 10#8])
theorem splF_join : ∀ (l cur : List (BitVec 8)), joinL (splF cur l).1 ++ (splF cur l).2 = cur ++ l
  | [], cur => by simp [splF, joinL]
  | [c], cur => by simp [splF, joinL]
  | c :: d :: r, cur => by
    unfold splF
    split
    · rename_i h
      have := splF_join r []
      simp only [joinL, List.flatMap_cons, List.append_assoc, List.nil_append] at this ⊢
      rw [this, h.1, h.2]; rfl
    · rw [splF_join (d :: r) (cur ++ [c])]; simp
theorem lines_join (l : List (BitVec 8)) : joinL (linesB l) ++ restB l = l := splF_join l []
def cutF : List (BitVec 8) → Option Nat
  | [] => none
  | [_] => none
  | c :: d :: r => if c = 13#8 ∧ d = 10#8 then some 0 else (cutF (d :: r)).map (· + 1)
theorem splF_none : ∀ (l cur : List (BitVec 8)), cutF l = none → splF cur l = ([], cur ++ l)
  | [], cur, _ => by simp [splF]
  | [c], cur, _ => by simp [splF]
  | c :: d :: r, cur, h => by
    unfold cutF at h; rw [splF_cc]
    split at h
    · cases h
    · rename_i h1
      rw [if_neg h1, splF_none (d :: r) _ (by simpa using h)]; simp
theorem splF_some : ∀ (l cur : List (BitVec 8)) (i : Nat), cutF l = some i → splF cur l = ((cur ++ l.take i) :: (splF [] (l.drop (i + 2))).1, (splF [] (l.drop (i + 2))).2)
  | [], cur, _, h => by cases h
  | [c], cur, _, h => by cases h
  | c :: d :: r, cur, i, h => by
    unfold cutF at h; rw [splF_cc]
    split at h
    · rename_i h1
      obtain rfl : 0 = i := by simpa using h
      rw [if_pos h1]; simp
    · rename_i h1
      rw [if_neg h1]
      match hc : cutF (d :: r), h with
      | none, h => simp [hc] at h
      | some j, h =>
        obtain rfl : j + 1 = i := by simpa [hc] using h
        rw [splF_some (d :: r) _ j hc]; simp
theorem cutF_room : ∀ (l : List (BitVec 8)) (i : Nat), cutF l = some i → i + 2 ≤ l.length ∧ l.getD i 0 = 13#8 ∧ l.getD (i + 1) 0 = 10#8
  | [], _, h => by cases h
  | [c], _, h => by cases h
  | c :: d :: r, i, h => by
    unfold cutF at h
    split at h
    · rename_i h1
      obtain rfl : 0 = i := by simpa using h
      exact ⟨by simp, h1.1, h1.2⟩
    · match hc : cutF (d :: r), h with
      | none, h => simp [hc] at h
      | some j, h =>
        obtain rfl : j + 1 = i := by simpa [hc] using h
        obtain ⟨a, b, e⟩ := cutF_room (d :: r) j hc
        exact ⟨by simp only [List.length_cons] at a ⊢; omega, b, e⟩
theorem lines_none {l : List (BitVec 8)} (h : cutF l = none) : linesB l = [] ∧ restB l = l := by unfold linesB restB; rw [splF_none l [] h]; exact ⟨rfl, rfl⟩
theorem lines_some {l : List (BitVec 8)} {i : Nat} (h : cutF l = some i) : linesB l = l.take i :: linesB (l.drop (i + 2)) ∧ restB l = restB (l.drop (i + 2)) := by
  unfold linesB restB; rw [splF_some l [] i h]; exact ⟨rfl, rfl⟩
/-- one step byte by byte -/
theorem spl_hit {l cur : List (BitVec 8)} {k : Nat} (h0 : l.getD k 0 = 13#8) (h1 : k + 1 < l.length) (h2 : l.getD (k + 1) 0 = 10#8) : splF cur (l.drop k) = (cur :: (splF [] (l.drop (k + 2))).1, (splF [] (l.drop (k + 2))).2) := by
  rw [drop_cons' oM, drop_cons' h1, splF, if_pos ⟨h0, h2⟩]
theorem spl_miss {l cur : List (BitVec 8)} {k : Nat} (hk : k < l.length) (h : l.getD k 0 = 13#8 → k + 1 < l.length → l.getD (k + 1) 0 ≠ 10#8) : splF cur (l.drop k) = splF (cur ++ [l.getD k 0]) (l.drop (k + 1)) := by
  by_cases hl : k + 1 < l.length
  · rw [drop_cons' hk, drop_cons' hl, splF, if_neg (fun e => h e.1 hl e.2)]
  · rw [drop_cons' hk, List.drop_of_length_le (by omega : l.length ≤ k + 1)]; simp [splF]
/-! ### With an end -/
def laidB (w : List (BitVec 8)) : List (BitVec 8) := if restB w = [] then w else w ++ [13#8, 10#8]
theorem splF_end : ∀ (w cur : List (BitVec 8)), splF cur (w ++ [13#8, 10#8]) = ((splF cur w).1 ++ [(splF cur w).2], [])
  | [], cur => by simp [splF]
  | [c], cur => by
    show splF cur (c :: 13#8 :: [10#8]) = _
    rw [splF_cc, if_neg (fun e => absurd e.2 (by decide))]; simp [splF]
  | c :: d :: r, cur => by
    show splF cur (c :: d :: (r ++ [13#8, 10#8])) = _
    rw [splF_cc, splF_cc]
    split
    · rw [splF_end r []]; rfl
    · exact splF_end (d :: r) (cur ++ [c])
theorem rest_nil : ∀ (w cur : List (BitVec 8)), (splF cur w).2 = [] → (w = [] ∧ cur = []) ∨ ∃ w', w = w' ++ [13#8, 10#8]
  | [], cur, h => .inl ⟨rfl, h⟩
  | [c], cur, h => by simp [splF] at h
  | c :: d :: r, cur, h => by
    unfold splF at h
    split at h
    · rename_i h1
      rcases rest_nil r [] h with ⟨rfl, _⟩ | ⟨w', rfl⟩
      · exact .inr ⟨[], by rw [h1.1, h1.2]; rfl⟩
      · exact .inr ⟨c :: d :: w', rfl⟩
    · rcases rest_nil (d :: r) _ h with ⟨h2, _⟩ | ⟨w', hw⟩
      · cases h2
      · exact .inr ⟨c :: w', by rw [hw]; rfl⟩
theorem ends_rest {w : List (BitVec 8)} (h1 : 2 ≤ w.length) (h2 : w.getD (w.length - 1) 0 = 10#8) (h3 : w.getD (w.length - 2) 0 = 13#8) : restB w = [] := by
  have : w = w.take (w.length - 2) ++ [13#8, 10#8] := by
    conv => lhs; rw [← List.take_append_drop (w.length - 2) w]
    rw [drop_cons' oM, show w.length - 2 + 1 = w.length - 1 by omega, drop_cons' oM, h3, h2, List.drop_of_length_le oM]
  rw [this]; unfold restB; rw [splF_end]
theorem rest_ends {w : List (BitVec 8)} (h0 : w ≠ []) (h : restB w = []) : 2 ≤ w.length ∧ w.getD (w.length - 1) 0 = 10#8 ∧ w.getD (w.length - 2) 0 = 13#8 := by
  rcases rest_nil w [] h with ⟨h1, _⟩ | ⟨w', rfl⟩
  · exact absurd h1 h0
  · refine ⟨by simp, ?_, ?_⟩
    · simp [List.getD_eq_getElem?_getD, List.getElem?_append]
    · simp [List.getD_eq_getElem?_getD, List.getElem?_append]
theorem laid_lines (w : List (BitVec 8)) : linesB (laidB w) = linesB w ++ (if restB w = [] then [] else [restB w]) ∧ restB (laidB w) = [] := by
  unfold laidB
  split
  · rename_i h; exact ⟨by simp, h⟩
  · unfold linesB restB; rw [splF_end]; exact ⟨rfl, rfl⟩
theorem laid_length (w : List (BitVec 8)) : (laidB w).length ≤ w.length + 2 := by unfold laidB; split <;> simp
/-! ### Over a line -/
def dotB (x : List (BitVec 8)) : List (BitVec 8) := if x.head? = some 46#8 then 46#8 :: x else x
def stfL (ls : List (List (BitVec 8))) : List (BitVec 8) := ls.flatMap fun x => dotB x ++ [13#8, 10#8]
def stuffB (l : List (BitVec 8)) : List (BitVec 8) := stfL (linesB (laidB (wholeB l))) ++ [46#8, 13#8, 10#8]
def stripB (x : List (BitVec 8)) : List (BitVec 8) := if x.head? = some 46#8 then x.drop 1 else x
def unL (mail : List (BitVec 8)) : List (List (BitVec 8)) → List (BitVec 8) → List (BitVec 8) × List (BitVec 8) × Int
  | [], _ => ([], [], 7)
  | x :: xs, rest => if x = [46#8] then (mail, joinL xs ++ rest, 0) else unL (mail ++ stripB x ++ [13#8, 10#8]) xs rest
def unB (l : List (BitVec 8)) : List (BitVec 8) × List (BitVec 8) × Int := unL [] (linesB l) (restB l)
theorem stf_append (a b : List (List (BitVec 8))) : stfL (a ++ b) = stfL a ++ stfL b := by simp [stfL]
theorem stf_end (ls : List (List (BitVec 8))) : (stfL (ls ++ [[]])).take ((stfL (ls ++ [[]])).length - 2) = stfL ls := by
  rw [stf_append]
  have : stfL [[]] = [13#8, 10#8] := rfl
  rw [this, List.length_append]
  simp
/-- no end within -/
def noCut (x : List (BitVec 8)) : Prop := cutF x = none
theorem cutF_app : ∀ (x r : List (BitVec 8)), noCut x → cutF (x ++ 13#8 :: 10#8 :: r) = some x.length
  | [], r, _ => by simp [cutF]
  | [c], r, _ => by
    show cutF (c :: 13#8 :: 10#8 :: r) = _
    rw [cutF, if_neg (fun e => absurd e.2 (by decide))]; simp [cutF]
  | c :: d :: x, r, h => by
    unfold noCut cutF at h
    split at h
    · cases h
    · rename_i h1
      show cutF (c :: d :: (x ++ 13#8 :: 10#8 :: r)) = _
      rw [cutF, if_neg h1]
      have := cutF_app (d :: x) r (by simpa [noCut] using h)
      simp only [List.cons_append] at this
      rw [this]; simp
theorem lines_app {x r : List (BitVec 8)} (h : noCut x) : linesB (x ++ 13#8 :: 10#8 :: r) = x :: linesB r ∧ restB (x ++ 13#8 :: 10#8 :: r) = restB r := by
  obtain ⟨a, b⟩ := lines_some (cutF_app x r h)
  have hd : (x ++ 13#8 :: 10#8 :: r).drop (x.length + 2) = r := by rw [← List.drop_drop, List.drop_left]; rfl
  rw [hd] at a b
  rw [List.take_left] at a
  exact ⟨a, b⟩
theorem noCut_cons {c : BitVec 8} {x : List (BitVec 8)} (hc : c ≠ 13#8) (h : noCut x) : noCut (c :: x) := by
  unfold noCut at *
  match x, h with
  | [], _ => rfl
  | d :: r, h => rw [cutF, if_neg (fun e => hc e.1), h]; rfl
theorem noCut_take : ∀ (x : List (BitVec 8)) (n : Nat), noCut x → noCut (x.take n)
  | [], n, _ => by simp [noCut, cutF]
  | [c], n, _ => by cases n <;> simp [noCut, cutF]
  | c :: d :: r, 0, _ => by simp [noCut, cutF]
  | c :: d :: r, 1, _ => by simp [noCut, cutF]
  | c :: d :: r, n + 2, h => by
    unfold noCut cutF at h
    split at h
    · cases h
    · rename_i h1
      show cutF (c :: d :: r.take n) = none
      rw [cutF, if_neg h1]
      have := noCut_take (d :: r) (n + 1) (by simpa [noCut] using h)
      have e : cutF (d :: r.take n) = none := this
      rw [e]; rfl
theorem noCut_snoc : ∀ (x : List (BitVec 8)) (c : BitVec 8), c ≠ 10#8 → noCut x → noCut (x ++ [c])
  | [], c, _, _ => by simp [noCut, cutF]
  | [d], c, hc, _ => by show cutF [d, c] = none; rw [cutF, if_neg (fun e => hc e.2)]; rfl
  | d :: e :: r, c, hc, h => by
    unfold noCut cutF at h
    split at h
    · cases h
    · rename_i h1
      show cutF (d :: e :: (r ++ [c])) = none
      rw [cutF, if_neg h1]
      have := noCut_snoc (e :: r) c hc (by simpa [noCut] using h)
      have e' : cutF (e :: (r ++ [c])) = none := this
      rw [e']; rfl
theorem lines_noCut : ∀ (n : Nat) (l : List (BitVec 8)), l.length ≤ n → ∀ x ∈ linesB l, noCut x
  | 0, l, hl, x, hx => by
    obtain rfl : l = [] := List.eq_nil_of_length_eq_zero oM
    cases hx
  | n + 1, l, hl, x, hx => by
    match hc : cutF l with
    | none => rw [(lines_none hc).1] at hx; cases hx
    | some i =>
      have hr := (cutF_room l i hc).1
      rw [(lines_some hc).1] at hx
      rcases List.mem_cons.1 hx with rfl | hx
      · have key : ∀ (l : List (BitVec 8)) (i : Nat), cutF l = some i → noCut (l.take i) := by
          intro l
          induction l with
          | nil => intro i h; cases h
          | cons c t ih =>
            intro i h
            match t, ih, h with
            | [], _, h => cases h
            | d :: r, ih, h =>
              unfold cutF at h
              split at h
              · obtain rfl : 0 = i := by simpa using h
                simp [noCut, cutF]
              · rename_i h1
                match hc : cutF (d :: r), h with
                | none, h => simp [hc] at h
                | some j, h =>
                  obtain rfl : j + 1 = i := by simpa [hc] using h
                  have := ih j hc
                  show noCut (c :: (d :: r).take j)
                  match j, this with
                  | 0, _ => simp [noCut, cutF]
                  | j + 1, this =>
                    show cutF (c :: d :: r.take j) = none
                    rw [cutF, if_neg h1]
                    have e : cutF (d :: r.take j) = none := this
                    rw [e]; rfl
        exact key l i hc
      · exact lines_noCut n _ (by simp; omega) x hx
theorem dot_noCut {x : List (BitVec 8)} (h : noCut x) : noCut (dotB x) := by
  unfold dotB; split
  · exact noCut_cons (by decide) h
  · exact h
theorem dot_ne (x : List (BitVec 8)) : dotB x ≠ [46#8] := by
  unfold dotB; split
  · rename_i h; intro e; have : x = [] := by simpa using e
    subst this; cases h
  · rename_i h; intro e; subst e; exact h rfl
theorem strip_dot (x : List (BitVec 8)) : stripB (dotB x) = x := by
  unfold dotB; split
  · simp [stripB]
  · rename_i h; rw [stripB, if_neg h]
theorem un_stuffed : ∀ (ls : List (List (BitVec 8))) (mail behind : List (BitVec 8)), (∀ x ∈ ls, noCut x) →
    unL mail (linesB (stfL ls ++ 46#8 :: 13#8 :: 10#8 :: behind)) (restB (stfL ls ++ 46#8 :: 13#8 :: 10#8 :: behind)) = (mail ++ joinL ls, behind, 0)
  | [], mail, behind, _ => by
    have h := lines_app (x := [46#8]) (r := behind) (by simp [noCut, cutF])
    show unL mail (linesB ([46#8] ++ 13#8 :: 10#8 :: behind)) (restB ([46#8] ++ 13#8 :: 10#8 :: behind)) = _
    rw [h.1, h.2, unL, if_pos rfl, lines_join]; simp [joinL]
  | x :: ls, mail, behind, h => by
    have hx := dot_noCut (h x (by simp))
    have e : stfL (x :: ls) ++ 46#8 :: 13#8 :: 10#8 :: behind = dotB x ++ 13#8 :: 10#8 :: (stfL ls ++ 46#8 :: 13#8 :: 10#8 :: behind) := by simp [stfL]
    rw [e, (lines_app hx).1, (lines_app hx).2, unL, if_neg (dot_ne x), strip_dot, un_stuffed ls _ behind (fun y hy => h y (by simp [hy]))]
    simp [joinL]
theorem un_prefix : ∀ (ls : List (List (BitVec 8))) (mail : List (BitVec 8)) (n : Nat), (∀ x ∈ ls, noCut x) → n < (stfL ls ++ [46#8, 13#8, 10#8]).length →
    unL mail (linesB ((stfL ls ++ [46#8, 13#8, 10#8]).take n)) (restB ((stfL ls ++ [46#8, 13#8, 10#8]).take n)) = ([], [], 7)
  | [], mail, n, _, hn => by
    have hn' : n < 3 := hn
    have : linesB ((stfL [] ++ [46#8, 13#8, 10#8]).take n) = [] := by
      match n, hn' with
      | 0, _ => rfl
      | 1, _ => rfl
      | 2, _ => rfl
    rw [this]; rfl
  | x :: ls, mail, n, h, hn => by
    have hx := dot_noCut (h x (by simp))
    have e : stfL (x :: ls) ++ [46#8, 13#8, 10#8] = dotB x ++ 13#8 :: 10#8 :: (stfL ls ++ [46#8, 13#8, 10#8]) := by simp [stfL]
    rw [e] at hn ⊢
    by_cases hl : (dotB x).length + 2 ≤ n
    · obtain ⟨m, rfl⟩ : ∃ m, n = (dotB x).length + (m + 2) := ⟨n - (dotB x).length - 2, by omega⟩
      have et : (dotB x ++ 13#8 :: 10#8 :: (stfL ls ++ [46#8, 13#8, 10#8])).take ((dotB x).length + (m + 2)) = dotB x ++ 13#8 :: 10#8 :: (stfL ls ++ [46#8, 13#8, 10#8]).take m := by
        rw [List.take_append, List.take_of_length_le oM, Nat.add_sub_cancel_left]; rfl
      rw [et, (lines_app hx).1, (lines_app hx).2, unL, if_neg (dot_ne x)]
      exact un_prefix ls _ m (fun y hy => h y (by simp [hy])) (by simp only [List.length_append, List.length_cons] at hn ⊢; omega)
    · have et : (dotB x ++ 13#8 :: 10#8 :: (stfL ls ++ [46#8, 13#8, 10#8])).take n = (dotB x ++ [13#8]).take n := by
        rw [show dotB x ++ 13#8 :: 10#8 :: (stfL ls ++ [46#8, 13#8, 10#8]) = (dotB x ++ [13#8]) ++ 10#8 :: (stfL ls ++ [46#8, 13#8, 10#8]) by simp, List.take_append_of_le_length (by simp; omega)]
      have hc : noCut ((dotB x ++ [13#8]).take n) := noCut_take _ _ (noCut_snoc _ _ (by decide) hx)
      rw [et, (lines_none hc).1]; rfl
theorem laid_join (w : List (BitVec 8)) : joinL (linesB (laidB w)) = laidB w := by
  have := lines_join (laidB w)
  rw [(laid_lines w).2, List.append_nil] at this; exact this
theorem back_whole (b behind : List (BitVec 8)) : unB (stuffB b ++ behind) = (laidB (wholeB b), behind, 0) := by
  have := un_stuffed (linesB (laidB (wholeB b))) [] behind (lines_noCut _ _ (Nat.le_refl _))
  unfold unB stuffB
  rw [show stfL (linesB (laidB (wholeB b))) ++ [46#8, 13#8, 10#8] ++ behind = stfL (linesB (laidB (wholeB b))) ++ 46#8 :: 13#8 :: 10#8 :: behind by simp, this, List.nil_append, laid_join]
theorem back_cut (b : List (BitVec 8)) {n : Nat} (h : n < (stuffB b).length) : unB ((stuffB b).take n) = ([], [], 7) :=
  un_prefix (linesB (laidB (wholeB b))) [] n (lines_noCut _ _ (Nat.le_refl _)) h
/-! ### Where a byte stands -/
def plF : Nat × Nat → List (BitVec 8) → Nat × Nat
  | s, [] => s
  | s, c :: r => plF (if c = 10#8 then (s.1 + 1, 0) else (s.1, s.2 + 1)) r
def placeB (l : List (BitVec 8)) (k : Nat) : Nat × Nat := plF (0, 0) (l.take k)
theorem plF_snoc : ∀ (l : List (BitVec 8)) (s : Nat × Nat) (c : BitVec 8), plF s (l ++ [c]) = if c = 10#8 then ((plF s l).1 + 1, 0) else ((plF s l).1, (plF s l).2 + 1)
  | [], s, c => by simp [plF]
  | d :: r, s, c => by simp only [List.cons_append, plF]; exact plF_snoc r _ c
theorem take_snoc' {l : List (BitVec 8)} {k : Nat} (h : k < l.length) : l.take (k + 1) = l.take k ++ [l.getD k 0] := by
  rw [List.take_add_one]; simp [List.getD_eq_getElem?_getD, h]
theorem place_lf {l : List (BitVec 8)} {k : Nat} (h : k < l.length) (hc : l.getD k 0 = 10#8) : placeB l (k + 1) = ((placeB l k).1 + 1, 0) := by
  unfold placeB; rw [take_snoc' h, plF_snoc, if_pos hc]
theorem place_on {l : List (BitVec 8)} {k : Nat} (h : k < l.length) (hc : l.getD k 0 ≠ 10#8) : placeB l (k + 1) = ((placeB l k).1, (placeB l k).2 + 1) := by
  unfold placeB; rw [take_snoc' h, plF_snoc, if_neg hc]
theorem place_le (l : List (BitVec 8)) : ∀ (k : Nat), (placeB l k).1 ≤ k ∧ (placeB l k).2 ≤ k
  | 0 => by simp [placeB, plF]
  | k + 1 => by
    have := place_le l k
    by_cases h : k < l.length
    · by_cases hc : l.getD k 0 = 10#8
      · rw [place_lf h hc]; simp only; omega
      · rw [place_on h hc]; simp only; omega
    · have e : placeB l (k + 1) = placeB l k := by unfold placeB; rw [List.take_of_length_le oM, List.take_of_length_le oM]
      rw [e]; omega
/-! ### bytes.Cut at CR LF -/
/-- The library's variable holds some number. -/
structure Tabs (m : Nat → Option Obj) : Prop where
  some_ : ∃ (k : Int) (c : Array Value) (E : TypeId) (fz : Nat × Nat), m 0 = some (.cells c E fz) ∧ c[0]? = some (.int .i64 k)
theorem Tabs.mono {m m' : Nat → Option Obj} (h : Tabs m) (hm : ∀ b o, m b = some o → m' b = some o) : Tabs m' := by
  obtain ⟨k, c, E, fz, h1, h2⟩ := h.some_
  exact ⟨k, c, E, fz, hm _ _ h1, h2⟩
theorem Tabs.cell {w : World} (h : Tabs (blks w)) : ∃ k : Int, w.cell? ⟨0, 0, none⟩ = some (.int .i64 k) := by
  obtain ⟨k, c, E, fz, h1, h2⟩ := h.some_
  have h1' : w.heap[0]? = some (.cells c E fz) := h1
  exact ⟨k, by simp [World.cell?, h1', h2]⟩
theorem Tabs.of_cell {w : World} {k : Int} (h : w.cell? ⟨0, 0, none⟩ = some (.int .i64 k)) : Tabs (blks w) := by
  obtain ⟨_, c, E, fz, h1, h2⟩ := cell_some h
  exact ⟨k, c, E, fz, h1, h2⟩
def b2i (l : List (BitVec 8)) : List Int := l.map fun x => (x.toNat : Int)
theorem bytesOf_b2i (l : List (BitVec 8)) : Lib.bytesOf (b2i l) = l.map UInt8.ofBitVec := by
  simp [Lib.bytesOf, b2i]
theorem index_cutF : ∀ l : List (BitVec 8), Lib.index (l.map UInt8.ofBitVec) [13, 10] = match cutF l with | some i => (i : Int) | none => -1
  | [] => rfl
  | [c] => by
    have e : ([13, 10] : List UInt8).isPrefixOf [UInt8.ofBitVec c] = false := by simp [List.isPrefixOf]
    simp only [List.map_cons, List.map_nil, Lib.index, e]
    rfl
  | c :: d :: r => by
    have ih := index_cutF (d :: r)
    have e : ([13, 10] : List UInt8).isPrefixOf (UInt8.ofBitVec c :: UInt8.ofBitVec d :: r.map UInt8.ofBitVec) = decide (c = 13#8 ∧ d = 10#8) := by
      have h1 : ((13 : UInt8) == UInt8.ofBitVec c) = decide (c = 13#8) := by
        rw [Bool.eq_iff_iff, beq_iff_eq, decide_eq_true_eq, ← UInt8.toBitVec_inj]; exact eq_comm
      have h2 : ((10 : UInt8) == UInt8.ofBitVec d) = decide (d = 10#8) := by
        rw [Bool.eq_iff_iff, beq_iff_eq, decide_eq_true_eq, ← UInt8.toBitVec_inj]; exact eq_comm
      simp only [List.isPrefixOf, h1, h2, Bool.and_true, Bool.decide_and]
    rw [List.map_cons, List.map_cons, Lib.index, e]
    rw [List.map_cons] at ih
    unfold cutF
    by_cases h : c = 13#8 ∧ d = 10#8
    · simp [h]
    · rw [if_neg (by simpa using h), if_neg h, ih]
      cases hc : cutF (d :: r) with
      | none => simp
      | some j =>
        have : ¬ ((j : Int) == -1) = true := by simp
        simp only [Option.map_some]
        rw [if_neg this]; simp
def befB (l : List (BitVec 8)) : List (BitVec 8) := match cutF l with | some i => l.take i | none => l
def aftB (l : List (BitVec 8)) : List (BitVec 8) := match cutF l with | some i => l.drop (i + 2) | none => []
def cutBv (v : Value) (l : List (BitVec 8)) : Value := match v, cutF l with | .slice a _ cap, some i => .slice a i cap | v, _ => v
def cutAv (v : Value) (l : List (BitVec 8)) : Value := match cutF l with | some i => subv v ((i + 2 : Nat) : Int) (l.length : Int) | none => .slice none 0 0
theorem Rd.cutB {m : Nat → Option Obj} {v : Value} {l : List (BitVec 8)} (h : Rd m u8 v l) : Rd m u8 (cutBv v l) (befB l) := by
  obtain ⟨a, cap, rfl, hle, hc⟩ := h.is
  unfold cutBv befB
  cases hi : cutF l with
  | none => exact h
  | some i =>
    have hr := (cutF_room l i hi).1
    have hm : (l.take i).length = i := by simp; omega
    simp only
    exact ⟨a, cap, by rw [hm], by omega, fun j hj => by
      obtain ⟨b, off, c, E, fz, h1, h2, h3⟩ := hc j oM
      exact ⟨b, off, c, E, fz, h1, h2, by simpa using h3⟩⟩
theorem Rd.cutA {m : Nat → Option Obj} {v : Value} {l : List (BitVec 8)} (h : Rd m u8 v l) : Rd m u8 (cutAv v l) (aftB l) := by
  unfold cutAv aftB
  cases hi : cutF l with
  | none => exact Rd.nil _ _
  | some i =>
    have hr := (cutF_room l i hi).1
    have := Rd.sub (i := ((i + 2 : Nat) : Int)) (j := (l.length : Int)) h oM oM (Int.le_refl _)
    simp only
    refine Rd.cast this ?_
    rw [Int.toNat_natCast, Int.toNat_natCast]
    exact List.take_of_length_le (by rw [List.length_drop]; exact Nat.le_refl _)
theorem capOk_cutA {v : Value} {l : List (BitVec 8)} (h : capOk v) : capOk (cutAv v l) := by
  unfold cutAv; split
  · exact capOk_subv h _ _
  · exact capOk_nil
theorem cut_lens (l : List (BitVec 8)) : (befB l).length ≤ l.length ∧ (aftB l).length ≤ l.length ∧ (cutF l ≠ none → (befB l).length + (aftB l).length + 2 = l.length) := by
  unfold befB aftB
  cases hi : cutF l with
  | none => exact ⟨Nat.le_refl _, Nat.zero_le _, fun h => absurd rfl h⟩
  | some i =>
    have hr := (cutF_room l i hi).1
    simp only [List.length_take, List.length_drop]
    exact ⟨by omega, by omega, fun _ => by omega⟩
theorem bytesIn_of {w : World} {a : Option Addr} {cap : Nat} {l : List (BitVec 8)} (h : Rd (blks w) u8 (.slice a l.length cap) l) : Lib.BytesIn w a l.length (b2i l) := by
  obtain ⟨a', cap', e, hle, hc⟩ := h.is
  injection e with e1 _ e3
  subst e1
  intro hn
  obtain ⟨b, off, c, E, fz, rfl, h2, h3⟩ := hc 0 hn
  refine ⟨b, off, rfl, fun i hi => ?_⟩
  obtain ⟨b', off', c', E', fz', e', h2', h3'⟩ := hc i hi
  injection e' with e'
  injection e' with e1 e2 _
  subst e1; subst e2
  have h2'' : w.heap[b]? = some (.cells c' E' fz') := h2'
  have : (b2i l).getD i 0 = (l[i].toNat : Int) := by simp [b2i, List.getD_eq_getElem?_getD, hi]
  rw [this]
  simp [World.cell?, h2'', h3', u8]
def cutRen : Go.Shelf.Ren := ⟨fun | 4 => 56 | 5 => 59 | 6 => 60 | 7 => 51 | 8 => 61 | 9 => 62 | 10 => 63 | 11 => 64 | 12 => 65 | n => n, fun | 0 => 0 | 3 => 3 | 4 => 4 | 5 => 5 | 9 => 9 | 22 => 24 | 29 => 105 | 30 => 106 | 31 => 107 | n => n, fun | 0 => 0 | n => n⟩
theorem cutLay : SlLaysT.n4 Try.prog cutRen := {
  mixed := by kernel_rfl
  f4 := Try.func56.trans (congrArg some (by kernel_rfl))
  f5 := Try.func59.trans (congrArg some (by kernel_rfl))
  f6 := Try.func60.trans (congrArg some (by kernel_rfl))
  f7 := Try.func51.trans (congrArg some (by kernel_rfl))
  f8 := Try.func61.trans (congrArg some (by kernel_rfl))
  f9 := Try.func62.trans (congrArg some (by kernel_rfl))
  f10 := Try.func63.trans (congrArg some (by kernel_rfl))
  f11 := Try.func64.trans (congrArg some (by kernel_rfl))
  f12 := Try.func65.trans (congrArg some (by kernel_rfl))
  t0 := uT0
  a0 := Try.isAgg0
  z0 := Try.sizeOf0
  v0 := Try.zeroValue0
  t3 := uT3
  a3 := Try.isAgg3
  z3 := Try.sizeOf3
  v3 := Try.zeroValue3
  t4 := uT4
  a4 := Try.isAgg4
  z4 := Try.sizeOf4
  v4 := Try.zeroValue4
  t5 := uT5
  a5 := Try.isAgg5
  z5 := Try.sizeOf5
  v5 := Try.zeroValue5
  t9 := uT9
  a9 := Try.isAgg9
  z9 := Try.sizeOf9
  v9 := Try.zeroValue9
  t22 := uT24
  a22 := Try.isAgg24
  z22 := Try.sizeOf24
  v22 := Try.zeroValue24
  t29 := uT105
  a29 := Try.isAgg105
  z29 := Try.sizeOf105
  v29 := Try.zeroValue105
  t30 := uT106
  a30 := Try.isAgg106
  z30 := Try.sizeOf106
  v30 := Try.zeroValue106
  t31 := uT107
  a31 := Try.isAgg107
  z31 := Try.sizeOf107
  v31 := Try.zeroValue107
  g0 := by kernel_rfl }
theorem maxlen_of {W : World} (h : W.ShapedOpen Try.prog) : Tabs (blks W) := let ⟨m, hm⟩ := (Go.Proofs.cell_of_shapedOpen_int (zero := #[.int .i64 0]) (t := 3) h (of_decide_eq_true (by kernel_rfl)) (by kernel_rfl) rfl (by kernel_rfl) (by kernel_rfl) uT3 : ∃ m, W.cell? ⟨0, 0, none⟩ = some (.int .i64 m)); Tabs.of_cell hm
theorem c_cut (v vs : Value) (l : List (BitVec 8)) (w0 : World) (hT : Tabs (blks w0)) (hr : Rd (blks w0) u8 v l) (hs : Rd (blks w0) u8 vs [13#8, 10#8]) (hc : capOk v) (hl : l.length ≤ 4294967280) :
    CallsR Try.prog 56 #[v, vs] w0 (fun r w1 => r = .tuple #[cutBv v l, cutAv v l, bl (cutF l).isSome] ∧ Ext w0 w1) := by
  obtain ⟨k, hk⟩ := hT.cell
  have hr0 := hr
  have hs0 := hs
  obtain ⟨a, cap, rfl, hle, _⟩ := hr.is
  obtain ⟨a2, cap2, rfl, _, _⟩ := hs.is
  have hcon := Go.Proofs.Any.bytes_Cut_all cutLay a a2 l.length cap 2 cap2 (b2i l) (b2i [13#8, 10#8]) k w0 (by simp [b2i]) rfl
    (by intro x hx; obtain ⟨y, _, rfl⟩ := List.mem_map.1 hx; exact ⟨Int.natCast_nonneg _, by have := y.isLt; omega⟩)
    (by intro x hx; obtain ⟨y, _, rfl⟩ := List.mem_map.1 hx; exact ⟨Int.natCast_nonneg _, by have := y.isLt; omega⟩)
    (bytesIn_of hr0) (bytesIn_of hs0) (fun e => by subst e; exact hc _ _ rfl) hle oM (by decide) hk
  refine Calls.mono hcon fun e w' h => ?_
  obtain ⟨rfl, q, rfl⟩ := h
  refine ⟨_, rfl, ?_, ⟨rfl, rfl, rfl, fun b o h => h⟩⟩
  have hi : Lib.index (Lib.bytesOf (b2i l)) (Lib.bytesOf (b2i [13#8, 10#8])) = match cutF l with | some i => (i : Int) | none => -1 := by
    rw [bytesOf_b2i, bytesOf_b2i]; exact index_cutF l
  rw [hi]
  unfold Lib.cutV cutBv cutAv
  cases hcf : cutF l with
  | none => rfl
  | some i =>
    have hroom := (cutF_room l i hcf).1
    have e1 : (0 : Int) ≤ ((i : Nat) : Int) := by omega
    simp only [if_pos e1, Int.toNat_natCast, Lib.fromV, subv, Nat.mul_one, Option.isSome_some]
    rfl
theorem toNat_succ (k : Nat) : ((k : Int) + 1).toNat = k + 1 := by omega
theorem isNone_nil' {a : Option Addr} {m : Nat → Option Obj} {l : List (BitVec 8)} (h : a.isNone = true) (hc : ∀ i (h : i < l.length), ∃ b off c E fz, a = some ⟨b, off, none⟩ ∧ m b = some (.cells c E fz) ∧ c[off + i]? = some (u8 l[i])) : l = [] := by
  match l, hc with
  | [], _ => rfl
  | x :: l, hc =>
    obtain ⟨b, off, c, E, fz, e, _⟩ := hc 0 (by simp)
    subst e; cases h
theorem told_true {α : Type} [BEq α] [LawfulBEq α] {a b : α} (h : a = b) : (a == b) = true := by rw [h]; exact beq_self_eq_true b
theorem told_ne {α : Type} [BEq α] [LawfulBEq α] {a b : α} (h : a = b) : (a != b) = false := by rw [h]; simp
theorem lines_cut {l : List (BitVec 8)} (h : (cutF l).isSome = true) : linesB l = befB l :: linesB (aftB l) ∧ restB l = restB (aftB l) ∧ (befB l).length + (aftB l).length + 2 = l.length := by
  cases hc : cutF l with
  | none => rw [hc] at h; cases h
  | some i =>
    have h3 := (cut_lens l).2.2 (by rw [hc]; simp)
    refine ⟨?_, ?_, h3⟩
    · rw [(lines_some hc).1]; unfold befB aftB; rw [hc]
    · rw [(lines_some hc).2]; unfold aftB; rw [hc]
theorem lines_nocut {l : List (BitVec 8)} (h : (cutF l).isSome = false) : linesB l = [] ∧ restB l = l := by
  cases hc : cutF l with
  | some i => rw [hc] at h; cases h
  | none => exact lines_none hc
theorem meas_sl {g g' : Nat → Value} {t : Nat} {v v' : Value} {m m' : Nat → Option Obj} {l l' : List (BitVec 8)} (h' : g' t = v') (h : g t = v) (hr' : Rd m' u8 v' l') (hr : Rd m u8 v l) (hlt : l'.length < l.length) : sllen (g' t) < sllen (g t) := by
  obtain ⟨a, c, rfl, _⟩ := hr.is
  obtain ⟨a', c', rfl, _⟩ := hr'.is
  rw [h, h']; exact hlt
theorem join_len (ls : List (List (BitVec 8))) : (joinL ls).length = (ls.map (·.length + 2)).sum := by
  induction ls with
  | nil => rfl
  | cons x ls ih => simp only [joinL, List.flatMap_cons, List.length_append, List.map_cons, List.sum_cons] at ih ⊢; rw [ih]; simp
theorem lines_count (l : List (BitVec 8)) : 2 * (linesB l).length + (restB l).length ≤ l.length := by
  have h := congrArg List.length (lines_join l)
  rw [List.length_append, join_len] at h
  have : ∀ ls : List (List (BitVec 8)), 2 * ls.length ≤ (ls.map (·.length + 2)).sum := by
    intro ls; induction ls with
    | nil => simp
    | cons x ls ih => simp only [List.length_cons, List.map_cons, List.sum_cons]; omega
  have := this (linesB l)
  omega
theorem opens_cap {P : Program} {t e : TypeId} (hu : P.underlying t = some (.slice e)) : Opens P t (fun _ cs => ∃ v, cs = [v] ∧ capOk v) := by
  refine ⟨fun H enc w fuel cs x h => ?_⟩
  rcases DataW.trod_slice hu h with ⟨rfl, _⟩ | ⟨a, len, cap, elems, rest, m, _, rfl, _⟩
  · exact ⟨_, rfl, capOk_nil⟩
  · exact ⟨_, rfl, fun n c e => by cases e⟩
theorem arg_cap {P : Program} {W : World} {t e : TypeId} {v : Value} {b0 : Nat} {H : Type} {enc : TypeId × Value → H} {d : DataW H} {ps : List MemPlace} {r : Reach} (hu : P.underlying t = some (.slice e)) (hval : Value.okWide P W r b0 t v) (h : DataW.Trod enc P W 0 (fun _ => true) true t v d ps) : capOk v := by
  obtain ⟨u, h1, h2⟩ := (opens_cap hu).of h
  obtain rfl := one_of hu rfl hval h1
  exact h2
theorem capOk_slc (b o n c : Nat) : capOk (slc b o n c) := fun _ _ e => by cases e
/-! ### Over a line, by steps -/
theorem getD_take_succ {α : Type} {L : List α} {k : Nat} {d : α} (h : k < L.length) : L.take (k + 1) = L.take k ++ [L.getD k d] := by
  rw [List.take_add_one]; simp [List.getD_eq_getElem?_getD, h]
theorem getD_drop {α : Type} {L : List α} {k : Nat} {d : α} (h : k < L.length) : L.drop k = L.getD k d :: L.drop (k + 1) := by
  rw [List.drop_eq_getElem_cons h]; simp [List.getD_eq_getElem?_getD, h]
theorem stf_succ {L : List (List (BitVec 8))} {k : Nat} (h : k < L.length) : stfL (L.take (k + 1)) = stfL (L.take k) ++ (dotB (L.getD k []) ++ [13#8, 10#8]) := by
  rw [getD_take_succ (d := []) h, stf_append]; simp [stfL]
theorem dot_yes {x : List (BitVec 8)} (h : 0 < x.length) (h0 : x.getD 0 0 = 46#8) : dotB x = 46#8 :: x := by
  match x, h, h0 with
  | c :: r, _, h0 => have : c = 46#8 := h0; subst this; rfl
theorem dot_no {x : List (BitVec 8)} (h : 0 < x.length → x.getD 0 0 ≠ 46#8) : dotB x = x := by
  match x, h with
  | [], _ => rfl
  | c :: r, h =>
    have hc : c ≠ 46#8 := h (by simp)
    unfold dotB; rw [if_neg (fun e => hc (by simpa using e))]
theorem strip_yes {x : List (BitVec 8)} (h : 0 < x.length) (h0 : x.getD 0 0 = 46#8) : stripB x = x.drop 1 := by
  match x, h, h0 with
  | c :: r, _, h0 => have : c = 46#8 := h0; subst this; rfl
theorem strip_no {x : List (BitVec 8)} (h : 0 < x.length → x.getD 0 0 ≠ 46#8) : stripB x = x := by
  match x, h with
  | [], _ => rfl
  | c :: r, h =>
    have hc : c ≠ 46#8 := h (by simp)
    unfold stripB; rw [if_neg (fun e => hc (by simpa using e))]
theorem strip_len (x : List (BitVec 8)) : (stripB x).length ≤ x.length := by unfold stripB; split <;> simp
theorem one_dot {x : List (BitVec 8)} (h : (x.length : Int) = 1) (h0 : x.getD 0 0 = 46#8) : x = [46#8] := by
  match x, h, h0 with
  | [c], _, h0 => have : c = 46#8 := h0; subst this; rfl
  | c :: d :: r, h, _ => simp only [List.length_cons] at h; omega
theorem not_dot {x : List (BitVec 8)} (h : (x.length : Int) = 1 → x.getD 0 0 ≠ 46#8) : x ≠ [46#8] := by
  rintro rfl; exact h rfl rfl
theorem sub_one (x : List (BitVec 8)) : ((x.drop (1 : Int).toNat).take (((x.length : Int)).toNat - (1 : Int).toNat)) = x.drop 1 := by
  have : (1 : Int).toNat = 1 := rfl
  rw [this, Int.toNat_natCast]
  exact List.take_of_length_le (by simp)
theorem un_one {mail x rest : List (BitVec 8)} {xs : List (List (BitVec 8))} (h : x = [46#8]) : unL mail (x :: xs) rest = (mail, joinL xs ++ rest, 0) := by rw [unL, if_pos h]
theorem un_more {mail x rest : List (BitVec 8)} {xs : List (List (BitVec 8))} (h : x ≠ [46#8]) : unL mail (x :: xs) rest = unL (mail ++ stripB x ++ [13#8, 10#8]) xs rest := by rw [unL, if_neg h]
theorem dot_len (x : List (BitVec 8)) : (dotB x).length ≤ x.length + 1 := by unfold dotB; split <;> simp
theorem stf_len : ∀ (L : List (List (BitVec 8))), (stfL L).length ≤ (joinL L).length + L.length
  | [] => by simp [stfL]
  | x :: L => by
    have := stf_len L
    have := dot_len x
    simp only [stfL, joinL, List.flatMap_cons, List.length_append, List.length_cons, List.length_nil] at *
    omega
theorem join_append (a b : List (List (BitVec 8))) : joinL (a ++ b) = joinL a ++ joinL b := by simp [joinL]
theorem join_one (x : List (BitVec 8)) : joinL [x] = x ++ [13#8, 10#8] := by simp [joinL]
theorem stf_take_le (L : List (List (BitVec 8))) (k : Nat) : (stfL (L.take k)).length ≤ (stfL L).length := by
  conv => rhs; rw [← List.take_append_drop k L, stf_append]
  simp
theorem lines_num (l : List (BitVec 8)) : 2 * (linesB l).length + (restB l).length ≤ l.length ∧ (joinL (linesB l)).length + (restB l).length = l.length := by
  have h := congrArg List.length (lines_join l)
  rw [List.length_append] at h
  have h2 : ∀ ls : List (List (BitVec 8)), 2 * ls.length ≤ (joinL ls).length := by
    intro ls; induction ls with
    | nil => simp
    | cons x ls ih => simp only [joinL, List.flatMap_cons, List.length_append, List.length_cons, List.length_nil] at ih ⊢; omega
  have := h2 (linesB l)
  exact ⟨by omega, h⟩
theorem stf_bound1 (w : List (BitVec 8)) : (stfL ((linesB w ++ [restB w]) ++ [[]])).length ≤ 2 * w.length + 8 ∧ ((linesB w ++ [restB w]) ++ [[]]).length ≤ w.length + 2 := by
  have h := stf_len ((linesB w ++ [restB w]) ++ [[]])
  obtain ⟨h1, h2⟩ := lines_num w
  rw [join_append, join_append, join_one, join_one] at h
  simp only [List.length_append, List.length_cons, List.length_nil] at h ⊢
  omega
theorem stf_bound2 (w : List (BitVec 8)) : (stfL (linesB w ++ [[]])).length ≤ 2 * w.length + 8 ∧ (linesB w ++ [[]]).length ≤ w.length + 2 := by
  have h := stf_len (linesB w ++ [[]])
  obtain ⟨h1, h2⟩ := lines_num w
  rw [join_append, join_one] at h
  simp only [List.length_append, List.length_cons, List.length_nil] at h ⊢
  omega
theorem stf_bound3 (w : List (BitVec 8)) : (stfL (linesB w)).length ≤ 2 * w.length + 8 ∧ (linesB w).length ≤ w.length := by
  have h := stf_len (linesB w)
  obtain ⟨h1, h2⟩ := lines_num w
  omega
theorem stuff_1 {l : List (BitVec 8)} (h : restB (wholeB l) ≠ []) : stfL (linesB (wholeB l) ++ [restB (wholeB l)]) ++ [46#8] ++ [13#8, 10#8] = stuffB l := by
  unfold stuffB; rw [(laid_lines _).1, if_neg h]; simp
theorem stuff_2 {l : List (BitVec 8)} (h : restB (wholeB l) = []) : stfL (linesB (wholeB l)) ++ [46#8] ++ [13#8, 10#8] = stuffB l := by
  unfold stuffB; rw [(laid_lines _).1, if_pos h]; simp
theorem stf_cut (L : List (List (BitVec 8))) : ((stfL (L ++ [[]])).drop (0 : Int).toNat).take ((((stfL (L ++ [[]])).length : Int) - 2).toNat - (0 : Int).toNat) = stfL L := by
  have h := stf_end L
  have e : (((stfL (L ++ [[]])).length : Int) - 2).toNat - (0 : Int).toNat = (stfL (L ++ [[]])).length - 2 := by
    have : (0 : Int).toNat = 0 := rfl
    rw [this]; omega
  have e0 : (0 : Int).toNat = 0 := rfl
  rw [e, e0, List.drop_zero]; exact h
theorem stf_two (L : List (List (BitVec 8))) : 2 ≤ (stfL (L ++ [[]])).length := by
  rw [stf_append]
  have : stfL [[]] = [13#8, 10#8] := rfl
  rw [this, List.length_append]; simp
theorem laid_1 {w : List (BitVec 8)} (h : restB w ≠ []) : w ++ [13#8, 10#8] = laidB w := by unfold laidB; rw [if_neg h]
theorem laid_2 {w : List (BitVec 8)} (h : restB w = []) : w = laidB w := by unfold laidB; rw [if_pos h]
theorem rest_ne {w : List (BitVec 8)} (h0 : 0 < w.length) (h : ¬ (2 ≤ w.length ∧ w.getD (w.length - 1) 0 = 10#8 ∧ w.getD (w.length - 2) 0 = 13#8)) : restB w ≠ [] := by
  intro e
  exact h (rest_ends (by rintro rfl; cases h0) e)
theorem rest_nil_of_len {w : List (BitVec 8)} (h : ¬ 0 < w.length) : restB w = [] := by
  obtain rfl : w = [] := List.eq_nil_of_length_eq_zero oM
  rfl
theorem join_succ {L : List (List (BitVec 8))} {k : Nat} {a : List (BitVec 8)} {t : List (BitVec 8)} (h : a ++ joinL (L.drop k) = t) (hk : k < L.length) : a ++ L.getD k [] ++ [13#8, 10#8] ++ joinL (L.drop (k + 1)) = t := by
  rw [← h, getD_drop (d := []) hk]; simp [joinL]
theorem join_take_succ {L : List (List (BitVec 8))} {k : Nat} (hk : k < L.length) : joinL (L.take (k + 1)) = joinL (L.take k) ++ L.getD k [] ++ [13#8, 10#8] := by
  rw [getD_take_succ (d := []) hk, join_append, join_one]; simp
theorem join_take_le (L : List (List (BitVec 8))) (k : Nat) : (joinL (L.take k)).length ≤ (joinL L).length := by
  conv => rhs; rw [← List.take_append_drop k L, join_append]
  simp
theorem un_len : ∀ (ls : List (List (BitVec 8))) (mail rest : List (BitVec 8)), (unL mail ls rest).1.length ≤ mail.length + (joinL ls).length ∧ (unL mail ls rest).2.1.length ≤ (joinL ls).length + rest.length
  | [], mail, rest => by simp [unL]
  | x :: xs, mail, rest => by
    have h := un_len xs (mail ++ stripB x ++ [13#8, 10#8]) rest
    have hs := strip_len x
    have hj : (joinL (x :: xs)).length = x.length + 2 + (joinL xs).length := by simp only [joinL, List.flatMap_cons, List.length_append, List.length_cons, List.length_nil]
    unfold unL
    split
    · simp only [List.length_append]; omega
    · simp only [List.length_append, List.length_cons, List.length_nil] at h ⊢; omega
theorem unB_len (l : List (BitVec 8)) : (unB l).1.length ≤ l.length ∧ (unB l).2.1.length ≤ l.length := by
  have h := un_len (linesB l) [] (restB l)
  obtain ⟨_, h2⟩ := lines_num l
  unfold unB
  simp only [List.length_nil] at h
  omega
theorem stuffB_len (l : List (BitVec 8)) : (stuffB l).length ≤ 4 * l.length + 16 ∧ 3 ≤ (stuffB l).length := by
  have h1 := (stf_bound3 (laidB (wholeB l))).1
  have h2 := laid_length (wholeB l)
  have h3 := (wholeB_length l).2
  unfold stuffB
  simp only [List.length_append, List.length_cons, List.length_nil]
  omega
theorem restB_len (l : List (BitVec 8)) : (restB l).length ≤ l.length := by have := (lines_num l).2; omega
theorem dot_ge (x : List (BitVec 8)) : x.length ≤ (dotB x).length := by unfold dotB; split <;> simp
theorem stf_el {L : List (List (BitVec 8))} {k : Nat} (h : k < L.length) : (stfL (L.take k)).length + (L.getD k []).length + 2 ≤ (stfL L).length := by
  have h1 := congrArg List.length (stf_succ h)
  have h2 := stf_take_le L (k + 1)
  have h3 := dot_ge (L.getD k [])
  simp only [List.length_append, List.length_cons, List.length_nil] at h1
  omega
theorem join_el {L : List (List (BitVec 8))} {k : Nat} (h : k < L.length) : (joinL (L.take k)).length + (L.getD k []).length + 2 ≤ (joinL L).length := by
  have h1 := congrArg List.length (join_take_succ h)
  have h2 := join_take_le L (k + 1)
  simp only [List.length_append, List.length_cons, List.length_nil] at h1
  omega
theorem un_end {mail lb : List (BitVec 8)} (h : ¬ 0 < lb.length) : unL mail (linesB lb) (restB lb) = ([], [], 7) := by
  obtain rfl : lb = [] := List.eq_nil_of_length_eq_zero oM
  rfl
theorem un_over {mail rest : List (BitVec 8)} {L : List (List (BitVec 8))} {k : Nat} (h : ¬ k < L.length) : unL mail (L.drop k) rest = ([], [], 7) := by
  rw [List.drop_of_length_le oM]; rfl
theorem stf_nil_take (L : List (List (BitVec 8))) : [] = stfL (L.take 0) := rfl
theorem join_drop_le (L : List (List (BitVec 8))) (k : Nat) : (joinL (L.drop k)).length ≤ (joinL L).length := by
  conv => rhs; rw [← List.take_append_drop k L, join_append]
  simp
theorem stf_le_app (a b : List (List (BitVec 8))) : (stfL a).length ≤ (stfL (a ++ b)).length := by rw [stf_append]; simp


end Go.Proofs.Ytfmjfojhcmmgcaa
