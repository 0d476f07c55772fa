/- The code's journal is the document's: plain law. Conditions: none beyond those that each theorem states. -/
import Derived.Test.YtfbnhoolkajebaaJoE
namespace Go.Proofs.Ytfbnhoolkajebaa
set_option linter.unusedVariables false
set_option linter.unusedSimpArgs false
/-! ### The code reads what the document reads -/
theorem gY_eq {x : List (BitVec 8)} : (gOf x).toNat = gY x := by unfold gOf gY; exact (getB_nat _ (by simp; omega)).1
theorem rY_eq {x : List (BitVec 8)} : (rOf x).toNat = rY x := by unfold rOf rY; exact (getB_nat _ (by simp; omega)).1
theorem pY_eq {x : List (BitVec 8)} : (pOf x).toNat = pY x := by unfold pOf pY; exact (getB_nat _ (by simp; omega)).1
theorem nY_eq {x : List (BitVec 8)} : (nOf x).toNat = nY x := by unfold nOf nY; exact (getB_nat _ (by simp; omega)).1
theorem dY_data {x : List (BitVec 8)} : dataB x = dY x := by unfold dataB dY; rw [nY_eq]
theorem and15 {p : BitVec 64} (h : p.toNat < 65536) : (p &&& 32768#64 != 0#64) = decide (32768 ≤ p.toNat) ∧ (p &&& ~~~32768#64).toNat = p.toNat % 32768 := by
  constructor
  · by_cases c : 32768 ≤ p.toNat
    · rw [decide_eq_true c, bne_iff_ne]
      intro e2
      have e3 := congrArg (fun v : BitVec 64 => v.getLsbD 15) e2
      simp only [BitVec.getLsbD_and] at e3
      have e4 : p.getLsbD 15 = true := by
        show p.toNat.testBit 15 = true
        rw [Nat.testBit_eq_decide_div_mod_eq]; exact decide_eq_true oM
      rw [e4] at e3; revert e3; decide
    · have e1 : p = p &&& 32767#64 := by
        apply BitVec.eq_of_toNat_eq
        rw [BitVec.toNat_and]
        have := Nat.and_two_pow_sub_one_eq_mod p.toNat 15
        show _ = p.toNat &&& (2 ^ 15 - 1)
        rw [this, Nat.mod_eq_of_lt oM]
      have e2 : p &&& 32768#64 = 0#64 := by
        rw [e1, BitVec.and_assoc]
        have : (32767#64 : BitVec 64) &&& 32768#64 = 0#64 := by decide
        rw [this, BitVec.and_zero]
      rw [decide_eq_false c, e2]; rfl
  · have e1 : p = p &&& 65535#64 := by
      apply BitVec.eq_of_toNat_eq
      rw [BitVec.toNat_and]
      have := Nat.and_two_pow_sub_one_eq_mod p.toNat 16
      show _ = p.toNat &&& (2 ^ 16 - 1)
      rw [this, Nat.mod_eq_of_lt h]
    have e2 : p &&& ~~~32768#64 = p &&& 32767#64 := by
      rw [e1, BitVec.and_assoc, BitVec.and_assoc]; congr 1
    rw [e2, BitVec.toNat_and]
    exact Nat.and_two_pow_sub_one_eq_mod p.toNat 15
theorem last_Y {y : List (BitVec 8)} : lastP y = decide (32768 ≤ pY y) := by
  have := pY_lt y
  unfold lastP; rw [← pY_eq]; exact (and15 (by rw [pY_eq]; exact this)).1
theorem bad_ok {y : List (BitVec 8)} {g num : BitVec 64} {i m : Nat} (hg : g ≠ 0#64) (hm : num.toNat = m) (hm2 : m < 4294967296) : badB y g num i = false ↔ OkY y g.toNat m i := by
  have hp := pY_lt y
  have e1 : (gOf y != g) = false ↔ gY y = g.toNat := by
    rw [bne_eq_false_iff_eq, ← gY_eq]; exact ⟨fun h => by rw [h], fun h => BitVec.eq_of_toNat_eq h⟩
  have e2 : (rOf y != num) = false ↔ rY y = m := by
    rw [bne_eq_false_iff_eq, ← rY_eq, ← hm]; exact ⟨fun h => by rw [h], fun h => BitVec.eq_of_toNat_eq h⟩
  have e3 : (((pOf y &&& ~~~32768#64).toNat : Int) != (i : Int)) = false ↔ pY y % 32768 = i := by
    rw [bne_eq_false_iff_eq, (and15 (by rw [pY_eq]; exact hp)).2, pY_eq]; omega
  have e0 : (g == 0#64) = false := by rw [beq_eq_false_iff_ne]; exact hg
  unfold badB OkY wholeY
  rw [last_Y, nY_eq, e0]
  simp only [Bool.or_eq_false_iff, e1, e2, e3]
  simp only [Bool.not_eq_false', Bool.and_eq_true, Bool.or_eq_true, Bool.and_eq_false_iff, Bool.not_eq_false, Bool.not_eq_true', decide_eq_true_eq, decide_eq_false_iff_not, beq_iff_eq, bne_eq_false_iff_eq, true_and, and_true]
  generalize (List.take 10 (List.drop 0 y) = List.take 10 (List.drop 54 y)) = P
  constructor
  · rintro ⟨⟨⟨⟨⟨h1, h2⟩, h3⟩, h4⟩, h5⟩, h6⟩
    exact ⟨⟨h1, by omega, by omega⟩, h2, h3, h4⟩
  · rintro ⟨⟨h1, h2, h3⟩, h4, h5, h6⟩
    exact ⟨⟨⟨⟨⟨h1, h4⟩, h5⟩, h6⟩, by omega⟩, by omega⟩
theorem genF_ne {g : BitVec 64} {y : List (BitVec 8)} (h : g ≠ 0#64) : genF g y = g := by
  unfold genF; rw [if_neg (by rw [beq_iff_eq]; exact h)]
theorem halfL_len {g : Nat} : ∀ (xs out : List (List (BitVec 8))) (part : List (BitVec 8)) (p : Nat), out.length ≤ (halfL g xs out part p).length
  | [], _, _, _ => Nat.le_refl _
  | x :: xs, out, part, p => by
    show _ ≤ (if _ then _ else _ : List (List (BitVec 8))).length
    split
    · split
      · have := halfL_len (g := g) xs (out ++ [part ++ dY x]) [] 0
        rw [List.length_append] at this; omega
      · exact halfL_len xs out _ _
    · exact Nat.le_refl _
section
variable {X : Int → List (BitVec 8)} {num g : BitVec 64} {pos : Int} {B out F : List (List (BitVec 8))}
theorem rec_half (hg : g ≠ 0#64) (hnum : num.toNat = out.length) (ho : out.length < 4294967296) : ∀ (f i p : Nat) (acc : List (BitVec 8)), (∀ k, k < f → X ((i + k : Nat) : Int) = B.getD (p + k) []) → p + f = B.length →
    halfL g.toNat (B.drop p) out acc i = F →
    ((recB X num pos f i g acc).ok = false → F = out) ∧ ((recB X num pos f i g acc).ok = true → ∃ m, 1 ≤ m ∧ (recB X num pos f i g acc).next = pos + ((i + m : Nat) : Int) ∧ p + m ≤ B.length ∧
      halfL g.toNat (B.drop (p + m)) (out ++ [(recB X num pos f i g acc).b]) [] 0 = F ∧ (recB X num pos f i g acc).of_ = g)
  | 0, i, p, acc, _, hB, hF => ⟨fun _ => half_end oM hF, fun h => (by cases h)⟩
  | f + 1, i, p, acc, hX, hB, hF => by
    have hx : X (i : Int) = B.getD p [] := by have := hX 0 oM; simpa using this
    have hpl : p < B.length := by omega
    unfold recB
    rw [genF_ne hg]
    by_cases hb : badB (X (i : Int)) g num i = true
    · rw [if_pos hb]
      refine ⟨fun _ => half_no hpl ?_ hF, fun h => (by cases h)⟩
      rw [hx] at hb
      intro hok
      rw [(bad_ok hg hnum ho).2 hok] at hb; cases hb
    · rw [if_neg hb]
      have hok : OkY (B.getD p []) g.toNat out.length i := by
        rw [hx] at hb; exact (bad_ok hg hnum ho).1 (by simpa using hb)
      by_cases hl : lastP (X (i : Int)) = true
      · rw [if_pos hl]
        rw [hx, last_Y] at hl
        have := half_last hpl hok (of_decide_eq_true hl) hF
        refine ⟨fun h => (by cases h), fun _ => ⟨1, Nat.le_refl _, (by push_cast; omega), oM, ?_, rfl⟩⟩
        rw [hx, dY_data]; exact this
      · rw [if_neg hl]
        rw [hx, last_Y] at hl
        have := half_more hpl hok (by simpa using hl) hF
        rw [hx, dY_data]
        obtain ⟨h1, h2⟩ := rec_half hg hnum ho f (i + 1) (p + 1) (acc ++ dY (B.getD p [])) (fun k hk => by have := hX (k + 1) oM; rw [show i + 1 + k = i + (k + 1) by omega, show p + 1 + k = p + (k + 1) by omega]; exact this) oM this
        refine ⟨h1, fun h => ?_⟩
        obtain ⟨m, a, b, c, d, e⟩ := h2 h
        refine ⟨m + 1, by omega, by rw [b]; congr 2; omega, by omega, ?_, e⟩
        rw [show p + (m + 1) = p + 1 + m by omega]; exact d
theorem rec_gen0 {f i : Nat} {acc : List (BitVec 8)} (h : gOf (X (i : Int)) ≠ 0#64) : recB X num pos (f + 1) i 0#64 acc = recB X num pos (f + 1) i (gOf (X (i : Int))) acc := by
  have e : genF 0#64 (X (i : Int)) = gOf (X (i : Int)) := by unfold genF; rw [if_pos (by rfl)]
  unfold recB
  rw [e, genF_ne h]
end
section
variable {ls F : List (List (BitVec 8))} {fr n : Nat}
theorem half_at {k : Nat} (h : fr + n ≤ ls.length) (hk : k < n) : ((ls.drop fr).take n).getD k [] = ls.getD (fr + k) [] := by
  simp [List.getD_eq_getElem?_getD, List.getElem?_take, hk]
theorem half_len (h : fr + n ≤ ls.length) : ((ls.drop fr).take n).length = n := by simp; omega
theorem recF_half (h : fr + n ≤ ls.length) {g : BitVec 64} {m pos : Nat} {out : List (List (BitVec 8))} (hg : g ≠ 0#64) (hm : m = out.length) (ho : out.length < 4294967296) (hp : pos ≤ n) (hF : halfL g.toNat (((ls.drop fr).take n).drop pos) out [] 0 = F) :
    ((recF ls [] (fr : Int) (n : Int) g (BitVec.ofInt 64 (m : Int)) (pos : Int)).ok = false → F = out) ∧ ((recF ls [] (fr : Int) (n : Int) g (BitVec.ofInt 64 (m : Int)) (pos : Int)).ok = true → ∃ k, 1 ≤ k ∧ (recF ls [] (fr : Int) (n : Int) g (BitVec.ofInt 64 (m : Int)) (pos : Int)).next = ((pos + k : Nat) : Int) ∧ pos + k ≤ n ∧
      halfL g.toNat (((ls.drop fr).take n).drop (pos + k)) (out ++ [(recF ls [] (fr : Int) (n : Int) g (BitVec.ofInt 64 (m : Int)) (pos : Int)).b]) [] 0 = F ∧ (recF ls [] (fr : Int) (n : Int) g (BitVec.ofInt 64 (m : Int)) (pos : Int)).of_ = g) := by
  have e0 : ((n : Int) - (pos : Int)).toNat = n - pos := by omega
  have hl := half_len h
  unfold recF
  rw [e0]
  obtain ⟨h1, h2⟩ := rec_half (X := fun i => readB ls [] ((fr : Int) + (pos : Int) + i)) (num := BitVec.ofInt 64 (m : Int)) (pos := (pos : Int)) (B := (ls.drop fr).take n) (out := out) (F := F) hg (by rw [ofInt_nat oM]; exact hm) ho (n - pos) 0 pos []
    (fun k hk => by
      rw [half_at h oM]
      show readB ls [] _ = _
      rw [readB_at (p := fr + (pos + k)) oM (by push_cast; omega)]) (by rw [hl]; omega) hF
  refine ⟨h1, fun hk => ?_⟩
  obtain ⟨k, a, b, c, d, e⟩ := h2 hk
  exact ⟨k, a, by rw [b]; push_cast; omega, by omega, d, e⟩
theorem loop_half (h : fr + n ≤ ls.length) (hn : n < 4294967296) {g : BitVec 64} (hg : g ≠ 0#64) : ∀ (f : Nat) (R : List (List (BitVec 8))) (pos : Nat), pos ≤ n → R.length ≤ pos → n < f + pos → halfL g.toNat (((ls.drop fr).take n).drop pos) R [] 0 = F →
    (loopH (fun g n' p => recF ls [] (fr : Int) (n : Int) g n' p) f ⟨g, R, (pos : Int)⟩ g (recF ls [] (fr : Int) (n : Int) g (BitVec.ofInt 64 (R.length : Int)) (pos : Int))).gen = g ∧ (loopH (fun g n' p => recF ls [] (fr : Int) (n : Int) g n' p) f ⟨g, R, (pos : Int)⟩ g (recF ls [] (fr : Int) (n : Int) g (BitVec.ofInt 64 (R.length : Int)) (pos : Int))).recs = F
  | 0, R, pos, hp, _, hf, _ => by omega
  | f + 1, R, pos, hp, hR, hf, hF => by
    obtain ⟨h1, h2⟩ := recF_half h hg (rfl : R.length = R.length) oM hp hF
    by_cases hok : (recF ls [] (fr : Int) (n : Int) g (BitVec.ofInt 64 (R.length : Int)) (pos : Int)).ok = true
    · obtain ⟨k, a, b, c, d, e⟩ := h2 hok
      have := loop_half h hn hg f (R ++ [(recF ls [] (fr : Int) (n : Int) g (BitVec.ofInt 64 (R.length : Int)) (pos : Int)).b]) (pos + k) c (by rw [List.length_append, List.length_singleton]; omega) oM d
      rw [List.length_append, List.length_singleton] at this
      unfold loopH
      rw [if_pos hok, b]
      exact this
    · unfold loopH
      rw [if_neg hok]
      exact ⟨rfl, (h1 (by simpa using hok)).symm⟩
/-- On any blocks: the code's half is the document's. -/
theorem read_half (h : fr + n ≤ ls.length) (hn : n < 4294967296) : halfR ((ls.drop fr).take n) = ((readH ls [] (fr : Int) (n : Int)).gen.toNat, (readH ls [] (fr : Int) (n : Int)).recs) := by
  have hl := half_len h
  by_cases h0 : n = 0
  · subst h0
    rw [halfR_0 oM]
    have e : recF ls [] (fr : Int) ((0 : Nat) : Int) 0#64 (BitVec.ofInt 64 (0 : Int)) (0 : Int) = recN := rfl
    unfold readH; rw [e]; rfl
  · have hat : ((ls.drop fr).take n).getD 0 [] = readB ls [] ((fr : Int) + 0 + ((0 : Nat) : Int)) := by
      rw [half_at h oM, readB_at (p := fr + 0) oM (by push_cast; omega)]
    obtain ⟨f, hf⟩ : ∃ f, ((n : Int) - 0).toNat = f + 1 := ⟨n - 1, by omega⟩
    have hnone : recF ls [] (fr : Int) (n : Int) 0#64 (BitVec.ofInt 64 (0 : Int)) (0 : Int) = recN → readH ls [] (fr : Int) (n : Int) = ⟨0#64, [], 0⟩ := by
      intro e; unfold readH; rw [e]; exact (loopH_end (q := recN) rfl rfl).symm ▸ rfl
    have hgY : (gOf (((ls.drop fr).take n).getD 0 [])).toNat = gY (((ls.drop fr).take n).getD 0 []) := gY_eq
    have eg0 : genF 0#64 (((ls.drop fr).take n).getD 0 []) = gOf (((ls.drop fr).take n).getD 0 []) := by unfold genF; rw [if_pos (by rfl)]
    by_cases hb : badB (((ls.drop fr).take n).getD 0 []) (gOf (((ls.drop fr).take n).getD 0 [])) (BitVec.ofInt 64 (0 : Int)) 0 = true ∧ (wholeY (((ls.drop fr).take n).getD 0 []) = false ∨ gOf (((ls.drop fr).take n).getD 0 []) = 0#64)
    · have e : recF ls [] (fr : Int) (n : Int) 0#64 (BitVec.ofInt 64 (0 : Int)) (0 : Int) = recN := by
        unfold recF
        rw [hf]
        unfold recB
        rw [← hat, eg0, if_pos hb.1]
      rw [hnone e]
      rcases hb.2 with e2 | e2
      · exact halfR_1 e2
      · exact halfR_2 (by rw [← hgY, e2]; rfl)
    · have hw : wholeY (((ls.drop fr).take n).getD 0 []) = true := by
        by_cases c : wholeY (((ls.drop fr).take n).getD 0 []) = true
        · exact c
        · exfalso; apply hb
          refine ⟨?_, .inl (by simpa using c)⟩
          unfold wholeY at c
          rw [← nY_eq] at c
          unfold badB
          rw [last_Y]
          generalize (List.take 10 (List.drop 0 (((ls.drop fr).take n).getD 0 [])) == List.take 10 (List.drop 54 (((ls.drop fr).take n).getD 0 []))) = P at c ⊢
          cases P
          · rfl
          · by_cases c1 : ((nOf (((ls.drop fr).take n).getD 0 [])).toNat : Int) ≤ 42
            · rw [decide_eq_true c1] at c
              simp only [Bool.true_and, Bool.or_eq_true, not_or, Bool.not_eq_true, beq_eq_false_iff_ne, decide_eq_false_iff_not] at c
              have c2 : decide (((nOf (((ls.drop fr).take n).getD 0 [])).toNat : Int) < 42) = true := decide_eq_true oM
              have c3 : decide (32768 ≤ pY (((ls.drop fr).take n).getD 0 [])) = false := decide_eq_false oM
              rw [c2, c3]; simp
            · have : decide ((42 : Int) < ((nOf (((ls.drop fr).take n).getD 0 [])).toNat : Int)) = true := decide_eq_true oM
              rw [this]; simp
      have hg : gOf (((ls.drop fr).take n).getD 0 []) ≠ 0#64 := by
        intro e; apply hb
        refine ⟨?_, .inr e⟩
        unfold badB; rw [e]; simp
      have hrec : recF ls [] (fr : Int) (n : Int) 0#64 (BitVec.ofInt 64 (0 : Int)) (0 : Int) = recF ls [] (fr : Int) (n : Int) (gOf (((ls.drop fr).take n).getD 0 [])) (BitVec.ofInt 64 ((0 : Nat) : Int)) ((0 : Nat) : Int) := by
        unfold recF
        show recB _ _ _ ((n : Int) - 0).toNat 0 _ _ = recB _ _ _ ((n : Int) - 0).toNat 0 _ _
        rw [hf, hat]
        exact rec_gen0 (X := fun i => readB ls [] ((fr : Int) + 0 + i)) (i := 0) (by show gOf (readB ls [] ((fr : Int) + 0 + ((0 : Nat) : Int))) ≠ _; rw [← hat]; exact hg)
      obtain ⟨h1, h2⟩ := recF_half h hg (m := 0) (out := []) (pos := 0) rfl (by simp) oM (F := halfL (gY (((ls.drop fr).take n).getD 0 [])) ((ls.drop fr).take n) [] [] 0) (by rw [hgY]; rfl)
      have hz := halfR_3 (B := (ls.drop fr).take n) oM hw (by rw [← hgY]; intro e; exact hg (BitVec.eq_of_toNat_eq e)) rfl
      rw [hz]
      by_cases hok : (recF ls [] (fr : Int) (n : Int) (gOf (((ls.drop fr).take n).getD 0 [])) (BitVec.ofInt 64 ((0 : Nat) : Int)) ((0 : Nat) : Int)).ok = true
      · obtain ⟨k, a, b, c, d, e⟩ := h2 hok
        have hll := halfL_len (g := (gOf (((ls.drop fr).take n).getD 0 [])).toNat) (((ls.drop fr).take n).drop (0 + k)) ([] ++ [(recF ls [] (fr : Int) (n : Int) (gOf (((ls.drop fr).take n).getD 0 [])) (BitVec.ofInt 64 ((0 : Nat) : Int)) ((0 : Nat) : Int)).b]) [] 0
        rw [d] at hll
        rw [List.length_append, List.length_singleton] at hll
        rw [if_neg oM]
        obtain ⟨j1, j2⟩ := loop_half h hn hg n [(recF ls [] (fr : Int) (n : Int) (gOf (((ls.drop fr).take n).getD 0 [])) (BitVec.ofInt 64 ((0 : Nat) : Int)) ((0 : Nat) : Int)).b] (0 + k) c (by simp; omega) oM d
        have hr : readH ls [] (fr : Int) (n : Int) = loopH (fun g n' p => recF ls [] (fr : Int) (n : Int) g n' p) n ⟨gOf (((ls.drop fr).take n).getD 0 []), [(recF ls [] (fr : Int) (n : Int) (gOf (((ls.drop fr).take n).getD 0 [])) (BitVec.ofInt 64 ((0 : Nat) : Int)) ((0 : Nat) : Int)).b], ((0 + k : Nat) : Int)⟩ (gOf (((ls.drop fr).take n).getD 0 [])) (recF ls [] (fr : Int) (n : Int) (gOf (((ls.drop fr).take n).getD 0 [])) (BitVec.ofInt 64 (1 : Int)) ((0 + k : Nat) : Int)) := by
          unfold readH
          rw [hrec, e, show ((n : Int).toNat + 1) = n + 1 by omega]
          show (if _ then _ else _) = _
          rw [if_pos hok, b]; rfl
        rw [hr]
        exact Prod.ext (hgY.symm.trans (congrArg BitVec.toNat j1).symm) j2.symm
      · have e := h1 (by simpa using hok)
        have hq : readH ls [] (fr : Int) (n : Int) = ⟨0#64, [], 0⟩ := by
          unfold readH; rw [hrec]; exact (loopH_end (by simpa using hok) rfl).symm ▸ rfl
        rw [hq, e]; rfl
end
/-! ### A disk's journal, by the code and by the document -/
section
variable {ls : List (List (BitVec 8))}
theorem top_eq : ∀ k, k ≤ ls.length → (mostK ls [] k).toNat = topK ls k
  | 0, _ => rfl
  | k + 1, h => by
    have ih := top_eq k oM
    rw [← mostK_S, readB_nil oM, maxU_nat, maxU_nat, ih, (getB_nat _ (by simp; omega)).1, (getB_nat _ (by simp; omega)).1]; rfl
theorem most_ge2 {ps : List WriteT} : ∀ n k : Nat, k < n → GB (mostK ls ps n).toNat (readB ls ps (k : Int))
  | 0, _, h => by omega
  | n + 1, k, h => by
    unfold GB
    rw [← mostK_S, maxU_nat, maxU_nat]
    by_cases e : k = n
    · subst e; omega
    · have := most_ge2 (ps := ps) n k oM
      unfold GB at this; omega
theorem okG_any (hl : ∀ x ∈ ls, x.length = 64) : okG (mostK ls [] ls.length).toNat ls := by
  intro x hx
  refine ⟨hl x hx, ?_⟩
  obtain ⟨p, hp, rfl⟩ := List.mem_iff_getElem.1 hx
  have e : ls[p] = ls.getD p [] := by simp [List.getD_eq_getElem?_getD, hp]
  rw [e, ← readB_nil hp]
  exact most_ge2 _ _ hp
theorem new_val (h : (newB ls [] == 0#64) = false) : (newB ls []).toNat = topK ls ls.length + 1 ∧ topK ls ls.length + 1 < 4294967296 := by
  have ht := top_eq (ls := ls) ls.length (Nat.le_refl _)
  have h2 : newB ls [] ≠ 0#64 := by rw [beq_eq_false_iff_ne] at h; exact h
  unfold newB at h2 ⊢
  by_cases c : (4294967295#64).toNat ≤ (mostK ls [] ls.length).toNat
  · rw [if_pos c] at h2; exact absurd rfl h2
  · rw [if_neg c]
    have c2 : ¬ 4294967295 ≤ (mostK ls [] ls.length).toNat := c
    rw [BitVec.toNat_add, ht]
    show (_ + 1) % 18446744073709551616 = _ ∧ _
    rw [ht] at c2; omega
/-- The document's journal of a disk is the code's. -/
theorem disk_halves (hn : ls.length < 4294967296) : diskR ls = (if (readH ls [] 0 ((ls.length : Int) / 2)).gen.toNat < (readH ls [] ((ls.length : Int) / 2) ((ls.length : Int) / 2)).gen.toNat
    then (true, (readH ls [] ((ls.length : Int) / 2) ((ls.length : Int) / 2)).gen.toNat, (readH ls [] ((ls.length : Int) / 2) ((ls.length : Int) / 2)).recs)
    else (false, (readH ls [] 0 ((ls.length : Int) / 2)).gen.toNat, (readH ls [] 0 ((ls.length : Int) / 2)).recs)) := by
  obtain ⟨n, hn2⟩ : ∃ n, n = ls.length / 2 := ⟨_, rfl⟩
  have e : (ls.length : Int) / 2 = (n : Int) := by omega
  have e1 := read_half (ls := ls) (fr := 0) (n := n) oM oM
  have e2 := read_half (ls := ls) (fr := n) (n := n) oM oM
  unfold diskR
  rw [e]
  have t0 : (0 : Int).toNat = 0 := rfl
  have t1 : ((n : Int)).toNat = n := by omega
  have t2 : (2 * (n : Int)).toNat - n = n := by omega
  simp only [t0, t1, t2, Nat.sub_zero]
  have e0 : ((0 : Nat) : Int) = 0 := rfl
  rw [e0] at e1
  rw [e1, e2]
/-- What Open leaves beside the records. -/
theorem turn_rest {L : List (List (BitVec 8))} {g : BitVec 64} {fr h G : Nat} {fI : Int} (hG : okG G ls) (hg : g.toNat = G + 1) (hg2 : g.toNat < 4294967296) (hh : fr = 0 ∨ fr = h) (hlen : ls.length / 2 = h) (hpos : 0 < L.length) (hroom : roomB L ≤ h) (hf : fI = (fr : Int)) {p : Nat} (hp : p < ls.length) (hn : ¬ (fr ≤ p ∧ p < fr + roomB L)) :
    (crashB (turnL ls [] fI g L) (turnP ls [] fI g L) [1#8]).getD p [] = ls.getD p [] := by
  have hT := okG_turn (ps := []) (fr := fI) (g := g) (L := L) (okG_mono hG (show G ≤ g.toNat by omega)) okV_nil (Nat.le_refl _) hg2
  have hls : ∀ x ∈ ls, x.length = 64 := fun x hx => (hG x hx).1
  have hlay : ∀ w ∈ layK ls [] fI g L (L.length - 1), w.b.length = 64 := fun w hw => (okV_lay (G := g.toNat) okV_nil (Nat.le_refl _) hg2 _ w hw).1
  have hFe := sync_eq (ls := turnL ls [] fI g L) (ps := turnP ls [] fI g L) (fun x hx => (hT.1 x hx).1) (fun w hw => (hT.2 w hw).1)
  have hlr := roomT_S (L := L) (k := 0) hpos
  have hr0 : roomB (L.take 0) = 0 := rfl
  have hrl := roomT_le (L := L) 1
  have h01 : L.take (0 + 1) = L.take 1 := rfl
  rw [h01] at hlr
  have key : ∀ j, (crashB (turnL ls [] fI g L) (turnP ls [] fI g L) [1#8]).getD j [] = if fr ≤ j ∧ j < fr + blocksN (L.getD 0 []).length then blkOf g (BitVec.ofInt 64 0) (blocksN (L.getD 0 []).length) (L.getD 0 []) (j - fr) else (syncF ls (layK ls [] fI g L (L.length - 1))).getD j [] := by
    intro j
    rw [hFe]
    by_cases e : (1 : Int) < (L.length : Int)
    · have e1 : turnL ls [] fI g L = syncF ls (layK ls [] fI g L (L.length - 1)) := by unfold turnL; rw [if_pos e]; exact sync_eq hls hlay
      have e2 : turnP ls [] fI g L = writeK (turnL ls [] fI g L) [] (fI + 0) g (BitVec.ofInt 64 0) (L.getD 0 []) (blocksN (L.getD 0 []).length) := by unfold turnP; rw [if_pos e]
      rw [e2, sync_write (pos := fr) oM _ (by rw [turnL_len]; omega), ← e1]; rfl
    · have e1 : turnL ls [] fI g L = ls := by unfold turnL; rw [if_neg e]
      have e2 : turnP ls [] fI g L = writeK ls (layK ls [] fI g L (L.length - 1)) (fI + 0) g (BitVec.ofInt 64 0) (L.getD 0 []) (blocksN (L.getD 0 []).length) := by unfold turnP; rw [if_neg e, e1]
      rw [e2, e1, sync_write (pos := fr) oM _ oM]
  obtain ⟨hL1, _⟩ := sync_lay (ls := ls) (g := g) (L := L) hf oM (L.length - 1) oM
  have hfull : L.take (L.length - 1 + 1) = L := List.take_of_length_le oM
  rw [hfull] at hL1
  rw [key, if_neg oM, hL1 p oM]
end
/-! ### The document's blocks, laid -/
def putD (b : List (List (BitVec 8))) (at_ : Nat) (xs : List (List (BitVec 8))) : Nat → List (List (BitVec 8))
  | 0 => b
  | k + 1 => (putD b at_ xs k).set (at_ + k) (xs.getD k [])
def blksD (g r : BitVec 64) (b : List (BitVec 8)) : List (List (BitVec 8)) := (List.range (blocksN b.length)).map (blkOf g r (blocksN b.length) b)
def layD (b : List (List (BitVec 8))) (fr : Nat) (g : BitVec 64) (L : List (List (BitVec 8))) : Nat → List (List (BitVec 8))
  | 0 => b
  | j + 1 => putD (layD b fr g L j) (fr + roomB (L.take j)) (blksD g (BitVec.ofInt 64 (j : Int)) (L.getD j [])) (blocksN (L.getD j []).length)
theorem blksD_at {g r : BitVec 64} {b : List (BitVec 8)} {k : Nat} (h : k < blocksN b.length) : (blksD g r b).getD k [] = blkOf g r (blocksN b.length) b k := by
  unfold blksD; simp [List.getD_eq_getElem?_getD, h]
section
variable {b xs : List (List (BitVec 8))} {at_ : Nat} {g : BitVec 64} {L : List (List (BitVec 8))} {fr : Nat}
theorem putD_len : ∀ k, (putD b at_ xs k).length = b.length
  | 0 => rfl
  | k + 1 => by show ((putD b at_ xs k).set _ _).length = _; rw [List.length_set, putD_len k]
theorem layD_len : ∀ k, (layD b fr g L k).length = b.length
  | 0 => rfl
  | k + 1 => by show (putD _ _ _ _).length = _; rw [putD_len, layD_len k]
theorem putD_at : ∀ k, at_ + k ≤ b.length → ∀ p, (putD b at_ xs k).getD p [] = if at_ ≤ p ∧ p < at_ + k then xs.getD (p - at_) [] else b.getD p []
  | 0, _, p => by rw [if_neg oM]; rfl
  | k + 1, h, p => by
    have ih := putD_at k oM p
    show ((putD b at_ xs k).set _ _).getD p [] = _
    rw [getD_set' (by rw [putD_len]; omega)]
    by_cases hj : p = at_ + k
    · rw [if_pos hj, if_pos oM, hj, Nat.add_sub_cancel_left]
    · rw [if_neg hj, ih]
      by_cases c : at_ ≤ p ∧ p < at_ + k
      · rw [if_pos c, if_pos oM]
      · rw [if_neg c, if_neg oM]
theorem layD_at (h : fr + roomB L ≤ b.length) : ∀ j, j ≤ L.length →
    (∀ i, i < j → ∀ k, k < blocksN (L.getD i []).length → (layD b fr g L j).getD (fr + roomB (L.take i) + k) [] = blkOf g (BitVec.ofInt 64 (i : Int)) (blocksN (L.getD i []).length) (L.getD i []) k) ∧
    (∀ p, ¬ (fr ≤ p ∧ p < fr + roomB (L.take j)) → (layD b fr g L j).getD p [] = b.getD p [])
  | 0, _ => ⟨fun i h => by omega, fun p _ => rfl⟩
  | j + 1, hj => by
    obtain ⟨i1, i2⟩ := layD_at h j oM
    have hs := roomT_S (L := L) (k := j) oM
    have hl := roomT_le (L := L) (j + 1)
    have hp := putD_at (b := layD b fr g L j) (at_ := fr + roomB (L.take j)) (xs := blksD g (BitVec.ofInt 64 (j : Int)) (L.getD j [])) (blocksN (L.getD j []).length) (by rw [layD_len]; omega)
    refine ⟨fun i hi k hk => ?_, fun p hn => ?_⟩
    · show (putD _ _ _ _).getD _ [] = _
      rw [hp]
      by_cases e : i = j
      · subst e
        rw [if_pos oM, Nat.add_sub_cancel_left, blksD_at hk]
      · have hs2 := roomT_S (L := L) (k := i) oM
        have hm := roomT_mono (L := L) (show i + 1 ≤ j by omega)
        rw [if_neg oM]
        exact i1 i oM k hk
    · show (putD _ _ _ _).getD _ [] = _
      rw [hp, if_neg oM]
      exact i2 p oM
theorem room_find {q : Nat} (h : q < roomB L) : ∃ j k, j < L.length ∧ k < blocksN (L.getD j []).length ∧ q = roomB (L.take j) + k := by
  have key : ∀ n, n ≤ L.length → q < roomB (L.take n) → ∃ j, j < n ∧ roomB (L.take j) ≤ q ∧ q < roomB (L.take (j + 1)) := by
    intro n
    induction n with
    | zero => intro _ h0; have : roomB (L.take 0) = 0 := rfl; omega
    | succ n ih =>
      intro hn h0
      by_cases h1 : q < roomB (L.take n)
      · obtain ⟨j, a, b, c⟩ := ih oM h1; exact ⟨j, by omega, b, c⟩
      · exact ⟨n, by omega, by omega, h0⟩
  obtain ⟨j, a, b, c⟩ := key L.length (Nat.le_refl _) (by rw [List.take_length]; exact h)
  rw [roomT_S a] at c
  exact ⟨j, q - roomB (L.take j), a, by omega, by omega⟩
end
theorem laid_eq {A B : List (List (BitVec 8))} {fr : Nat} {g : BitVec 64} {L : List (List (BitVec 8))} (hl : A.length = B.length) (hA : LaidP A fr g L) (hB : LaidP B fr g L) (hr : ∀ p, p < A.length → ¬ (fr ≤ p ∧ p < fr + roomB L) → A.getD p [] = B.getD p []) : A = B := by
  apply List.ext_getElem hl
  intro p h1 h2
  have eA : A[p] = A.getD p [] := by simp [List.getD_eq_getElem?_getD, h1]
  have eB : B[p] = B.getD p [] := by simp [List.getD_eq_getElem?_getD, h2]
  rw [eA, eB]
  by_cases c : fr ≤ p ∧ p < fr + roomB L
  · obtain ⟨j, k, hj, hk, e⟩ := room_find (L := L) (q := p - fr) oM
    have := hA j hj k hk; have h3 := hB j hj k hk
    rw [show fr + roomB (L.take j) + k = p by omega] at this h3
    rw [this, h3]
  · exact hr p h1 c
section
variable {ls : List (List (BitVec 8))}
/-- What holds of the records of any disk. -/
theorem old_any (h4 : 4 ≤ ls.length) (hn : ls.length ≤ 4000) : (∃ fr : Nat, (ls.length : Int) / 2 - (oldB ls []).1 = (fr : Int) ∧ (fr = 0 ∨ fr = ls.length / 2)) ∧ 0 < (oldB ls []).2.length ∧ roomB (oldB ls []).2 ≤ ls.length / 2 := by
  have e : (ls.length : Int) / 2 = ((ls.length / 2 : Nat) : Int) := by omega
  have h1 := readH_I (ls := ls) (ps := []) (fr0 := 0) (sz := (ls.length : Int) / 2) oM
  have h2 := readH_I (ls := ls) (ps := []) (fr0 := (ls.length : Int) / 2) (sz := (ls.length : Int) / 2) oM
  have hr1 := h1.room; have hr2 := h2.room; have ha1 := h1.at1; have ha2 := h2.at1; have hg1 := h1.gen; have hg2 := h2.gen
  have none : roomB [[]] ≤ ls.length / 2 := by rw [room_nil]; omega
  unfold oldB
  simp only
  split
  · split
    · exact ⟨⟨0, by show _ - _ = _; omega, .inl rfl⟩, by simp, none⟩
    · rename_i _ c
      exact ⟨⟨0, by show _ - _ = _; omega, .inl rfl⟩, hg2 (Bool.eq_false_iff.2 c), (by show roomB (readH ls [] ((ls.length : Int) / 2) ((ls.length : Int) / 2)).recs ≤ _; omega)⟩
  · split
    · exact ⟨⟨0, by show _ - _ = _; omega, .inl rfl⟩, by simp, none⟩
    · rename_i _ c
      exact ⟨⟨ls.length / 2, by show _ - 0 = _; omega, .inr rfl⟩, hg1 (Bool.eq_false_iff.2 c), (by show roomB (readH ls [] 0 ((ls.length : Int) / 2)).recs ≤ _; omega)⟩
theorem open_any {fr : Nat} (hl : ∀ x ∈ ls, x.length = 64) (h4 : 4 ≤ ls.length) (hn : ls.length ≤ 4000) (hnew : (newB ls [] == 0#64) = false) (hf : (ls.length : Int) / 2 - (oldB ls []).1 = (fr : Int)) :
    JI (openD ls []) fr (ls.length / 2) (newB ls []) (oldB ls []).2 ∧ openD ls [] = layD ls fr (newB ls []) (oldB ls []).2 (oldB ls []).2.length := by
  obtain ⟨⟨fr', hf', hh⟩, hp, hr⟩ := old_any h4 hn
  obtain rfl : fr = fr' := by omega
  have ht := top_eq (ls := ls) ls.length (Nat.le_refl _)
  obtain ⟨h1, h2⟩ := new_val hnew
  have hG := okG_any hl
  have hJ : JI (openD ls []) fr (ls.length / 2) (newB ls []) (oldB ls []).2 := by
    unfold openD
    exact turn_JI hG (by rw [h1, ht]) oM hh rfl oM hp hr hf
  refine ⟨hJ, ?_⟩
  have hb : fr + roomB (oldB ls []).2 ≤ ls.length := by omega
  obtain ⟨j1, j2⟩ := layD_at (b := ls) (fr := fr) (g := newB ls []) hb (oldB ls []).2.length (Nat.le_refl _)
  refine laid_eq (by rw [openD_len, layD_len]) hJ.laid (fun j hj k hk => j1 j hj k hk) ?_
  intro p hp' hn'
  rw [openD_len] at hp'
  rw [j2 p (by rw [List.take_length]; exact hn')]
  unfold openD
  exact turn_rest hG (by rw [h1, ht]) oM hh rfl hp hr hf hp' hn'
end
section
variable {Ls : List (List (BitVec 8))} {fr h : Nat} {g : BitVec 64} {L : List (List (BitVec 8))}
theorem JI.disk (J : JI Ls fr h g L) : (diskR Ls).2.2 = L := by
  have hp := J.pos; have hr := J.room; have hlr := room_len (L := L); have hln := J.len; have hg1 := J.g1; have hsm := J.small
  have hI : (Ls.length : Int) / 2 = (h : Int) := by omega
  have hrd := J.read
  have hoth : ∀ fo : Nat, fo + h ≤ Ls.length → (fo = h ∧ fr = 0 ∨ fo = 0 ∧ fr = h) → (readH Ls [] (fo : Int) (h : Int)).gen.toNat ≤ g.toNat - 1 := by
    intro fo h1 h2
    rcases half_gen (Ls := Ls) (ps := []) (fr := (fo : Int)) (sz := (h : Int)) with e | ⟨e, hh⟩
    · rw [e]; exact Nat.zero_le _
    · rw [e, readB_nil oM]
      exact (J.rest fo oM oM).1
  rw [disk_halves oM, hI]
  have e0 : ((0 : Nat) : Int) = 0 := rfl
  rcases J.half with rfl | rfl
  · have := hoth h oM (.inl ⟨rfl, rfl⟩)
    rw [e0] at hrd
    rw [hrd, if_neg (by show ¬ g.toNat < _; omega)]
  · have := hoth 0 oM (.inr ⟨rfl, rfl⟩)
    rw [e0] at this
    rw [hrd, if_pos (by show _ < g.toNat; omega)]
end


end Go.Proofs.Ytfbnhoolkajebaa
