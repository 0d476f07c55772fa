/- A crash in the midst of a commit: plain law; contracts of a twin, and of whether a store is some values. Conditions: none beyond those that each theorem states. -/
import Derived.Test.YtfbnhoolkajebaaSoN
namespace Go.Proofs.Ytfbnhoolkajebaa
set_option linter.unusedVariables false
set_option linter.unusedSimpArgs false
/-! A block that is torn. -/
def Torn (o x y : List (BitVec 8)) : Prop := ∃ c, y = x.take c ++ o.drop c
section
variable {o x y : List (BitVec 8)}
theorem Torn.refl : Torn o x o := ⟨0, rfl⟩
theorem Torn.same (h : Torn x x y) : y = x := by obtain ⟨c, rfl⟩ := h; exact List.take_append_drop c x
theorem Torn.step (h : Torn o x y) (hl : o.length = x.length) (c : Nat) : Torn o x (x.take c ++ y.drop c) := by
  obtain ⟨d, rfl⟩ := h
  rcases Nat.le_total c d with hcd | hcd
  · refine ⟨d, ?_⟩
    have e2 : (o.drop d).drop (c - (x.take d).length) = o.drop d := by
      rw [List.length_take]
      by_cases hd : d ≤ x.length
      · rw [Nat.min_eq_left hd, Nat.sub_eq_zero_of_le hcd, List.drop_zero]
      · have e0 : o.drop d = [] := List.drop_of_length_le oM
        rw [e0]; simp
    have e3 : x.take c ++ (x.take d).drop c = x.take d := by
      have := List.take_append_drop c (x.take d)
      rwa [List.take_take, Nat.min_eq_left hcd] at this
    rw [List.drop_append, e2, ← List.append_assoc, e3]
  · refine ⟨c, ?_⟩
    have e1 : (x.take d).drop c = [] := List.drop_of_length_le (by rw [List.length_take]; omega)
    have e2 : (o.drop d).drop (c - (x.take d).length) = o.drop c := by
      rw [List.length_take]
      by_cases hd : d ≤ x.length
      · rw [Nat.min_eq_left hd, List.drop_drop]; congr 1; omega
      · rw [List.drop_of_length_le (l := o.drop d) (by rw [List.length_drop]; omega), List.drop_of_length_le (l := o) oM]
    rw [List.drop_append, e1, e2, List.nil_append]
theorem Torn.len (h : Torn o x y) (ho : o.length = 64) (hx : x.length = 64) : y.length = 64 := by
  obtain ⟨c, rfl⟩ := h
  rw [List.length_append, List.length_take, List.length_drop]; omega
theorem Torn.at (h : Torn o x y) (hl : o.length = x.length) : ∀ i, y.getD i 0 = x.getD i 0 ∨ y.getD i 0 = o.getD i 0 := fun i => by
  obtain ⟨c, rfl⟩ := h
  by_cases hi : i < c
  · left
    by_cases hx : i < x.length
    · rw [List.getD_eq_getElem?_getD, List.getElem?_append_left (by rw [List.length_take]; omega), List.getElem?_take, if_pos hi, List.getD_eq_getElem?_getD]
    · rw [List.getD_eq_getElem?_getD, List.getElem?_append_right (by rw [List.length_take]; omega), List.getElem?_eq_none (by rw [List.length_drop, List.length_take]; omega), List.getD_eq_getElem?_getD, List.getElem?_eq_none oM]
  · right
    rw [List.getD_eq_getElem?_getD, List.getElem?_append_right (by rw [List.length_take]; omega), List.getElem?_drop, List.getD_eq_getElem?_getD]
    by_cases hc : c ≤ x.length
    · congr 2; rw [List.length_take]; omega
    · rw [List.getElem?_eq_none (by rw [List.length_take]; omega), List.getElem?_eq_none oM]
theorem gen_first {z : List (BitVec 8)} {i : Nat} (h : i + 4 ≤ z.length) : (getB ((z.drop i).take 4)).toNat < 16777216 ↔ (z.getD i 0).toNat = 0 := by
  obtain ⟨e1, _⟩ := getB_nat ((z.drop i).take 4) (by simp; omega)
  rw [e1, natB_4 (l := z.drop i) (by rw [List.length_drop]; omega), getD_drop, getD_drop, getD_drop, getD_drop, Nat.add_zero]
  have h1 := (z.getD (i + 1) 0).isLt
  have h2 := (z.getD (i + 2) 0).isLt
  have h3 := (z.getD (i + 3) 0).isLt
  omega
theorem torn_gens (ho : o.length = 64) (hx : x.length = 64) (h : Torn o x y) {G : Nat} (hG : G < 16777216) (h1 : GB G o) (h2 : GB G x) : GB 16777215 y := by
  have hy := h.len ho hx
  have key : ∀ i, i + 4 ≤ 64 → (getB ((o.drop i).take 4)).toNat ≤ G → (getB ((x.drop i).take 4)).toNat ≤ G → (getB ((y.drop i).take 4)).toNat ≤ 16777215 := fun i hi a b => by
    have a' := (gen_first (z := o) (i := i) oM).1 oM
    have b' := (gen_first (z := x) (i := i) oM).1 oM
    have := (gen_first (z := y) (i := i) oM).2 (by rcases h.at oM i with e | e <;> rw [e] <;> assumption)
    omega
  exact ⟨key 0 oM h1.1 h2.1, key 54 oM h1.2 h2.2⟩
theorem torn_valid {g r : BitVec 64} {n : Nat} {b : List (BitVec 8)} {k : Nat} (hl : o.length = 64) (h : Torn o (blkOf g r n b k) y) (hne : y ≠ blkOf g r n b k) (hv : (y.drop 0).take 10 = (y.drop 54).take 10) : gOf y = getB ((o.drop 54).take 4) := by
  have hx : (blkOf g r n b k).length = 64 := blkOf_len
  have hyl := h.len hl hx
  have hm0 : ((blkOf g r n b k).drop 0).take 10 = markB g r (placeF n k) := raw_mark (markB_len _ _ _)
  have hm1 : (blkOf g r n b k).drop 54 = markB g r (placeF n k) := raw_end (markB_len _ _ _) (partB_len _ _)
  obtain ⟨c, e⟩ := h
  rcases Nat.lt_or_ge 54 c with hc | hc
  · exfalso; apply hne
    have t54 : y.take 54 = (blkOf g r n b k).take 54 := by
      rw [e, List.take_append_of_le_length (by rw [List.length_take]; omega), List.take_take, Nat.min_eq_left oM]
    have t10 : (y.drop 0).take 10 = markB g r (placeF n k) := by
      rw [← hm0, List.drop_zero, List.drop_zero, show y.take 10 = (y.take 54).take 10 by rw [List.take_take]; rfl, t54, List.take_take]; rfl
    have d54 : y.drop 54 = markB g r (placeF n k) := by
      rw [← t10, hv, List.take_of_length_le (by rw [List.length_drop]; omega)]
    rw [← List.take_append_drop 54 y, t54, d54, ← hm1, List.take_append_drop]
  · have d54 : y.drop 54 = o.drop 54 := by
      rw [e, List.drop_append, List.drop_of_length_le (l := (blkOf g r n b k).take c) (by rw [List.length_take]; omega), List.nil_append, List.length_take, List.drop_drop]; congr 1; omega
    unfold gOf
    rw [show (y.drop 0).take 4 = ((y.drop 0).take 10).take 4 by rw [List.take_take]; rfl, hv, d54, List.take_take]; rfl
theorem torn_bad {g r : BitVec 64} {n : Nat} {b : List (BitVec 8)} {k i : Nat} (hl : o.length = 64) (h : Torn o (blkOf g r n b k) y) (hne : y ≠ blkOf g r n b k) (ho : (getB ((o.drop 54).take 4)).toNat ≤ g.toNat - 1) (hg : 1 ≤ g.toNat) : badB y g r i = true := by
  by_cases hv : (y.drop 0).take 10 = (y.drop 54).take 10
  · have e := torn_valid hl h hne hv
    have hgn : (gOf y != g) = true := by rw [bne_iff_ne]; intro e2; rw [← e, e2] at ho; omega
    unfold badB; rw [hgn]; simp
  · have : ((y.drop 0).take 10 == (y.drop 54).take 10) = false := by rw [beq_eq_false_iff_ne]; exact hv
    unfold badB; rw [this]; simp
end
/-! The blocks that are unlike, written, and a crash. -/
def diffK (a b : List (List (BitVec 8))) : Nat → List WriteT
  | 0 => []
  | k + 1 => if (a.getD k [] != b.getD k []) = true then pushB a (diffK a b k) (k : Int) (b.getD k []) else diffK a b k
section
variable {a b : List (List (BitVec 8))} {k : Nat}
theorem diffK_0 : [] = diffK a b 0 := rfl
theorem diff_t (h : (a.getD k [] != b.getD k []) = true) : pushB a (diffK a b k) (k : Int) (b.getD k []) = diffK a b (k + 1) := by show _ = if _ then _ else _; rw [if_pos h]
theorem diff_f (h : (a.getD k [] != b.getD k []) = false) : diffK a b k = diffK a b (k + 1) := by show _ = if _ then _ else _; rw [if_neg (by rw [h]; decide)]
theorem diff_len : ∀ k, (diffK a b k).length ≤ k
  | 0 => Nat.le_refl _
  | k + 1 => by
    have ih := diff_len k
    show (if _ then _ else _ : List WriteT).length ≤ _
    split
    · unfold pushB; split
      · rw [List.length_append, List.length_singleton]; omega
      · omega
    · omega
theorem diff_ok : ∀ k, okP (diffK a b k) (a.length : Int)
  | 0 => okP_nil
  | k + 1 => by
    show okP (if _ then _ else _) _
    split
    · exact okP_push (diff_ok k)
    · exact diff_ok k
theorem diff_mem : ∀ k, ∀ w ∈ diffK a b k, ∃ p : Nat, p < a.length ∧ w = ⟨(p : Int), b.getD p []⟩
  | 0, w, hw => by cases hw
  | k + 1, w, hw => by
    have hw : w ∈ (if (a.getD k [] != b.getD k []) = true then pushB a (diffK a b k) (k : Int) (b.getD k []) else diffK a b k) := hw
    split at hw
    · unfold pushB at hw
      split at hw
      · rename_i hin
        rcases List.mem_append.1 hw with hw | hw
        · exact diff_mem k w hw
        · obtain rfl := List.mem_singleton.1 hw
          exact ⟨k, by have := (inB_t hin).2; omega, rfl⟩
      · exact diff_mem k w hw
    · exact diff_mem k w hw
theorem crash_torn {ps : List WriteT} {q : List (BitVec 8)} (hab : ∀ p, (a.getD p []).length = (b.getD p []).length) (hps : ∀ w ∈ ps, ∃ p : Nat, p < a.length ∧ w = ⟨(p : Int), b.getD p []⟩) : ∀ k, k ≤ ps.length → ∀ p, Torn (a.getD p []) (b.getD p []) ((crashK a ps q k).getD p [])
  | 0, _, p => Torn.refl
  | k + 1, hk, p => by
    have ih := crash_torn (q := q) hab hps k oM
    obtain ⟨p0, h0, e⟩ := hps (ps.getD k write0) (getD_mem oM)
    show Torn _ _ ((putW (crashK a ps q k) (ps.getD k write0) _).getD p [])
    rw [e]
    unfold putW
    have e2 : ((p0 : Int)).toNat = p0 := by omega
    show Torn _ _ (((crashK a ps q k).set ((p0 : Int)).toNat ((b.getD p0 []).take _ ++ ((crashK a ps q k).getD ((p0 : Int)).toNat []).drop _)).getD p [])
    rw [e2, getD_set' (by rw [crashK_len]; exact h0)]
    by_cases hp : p = p0
    · subst hp
      rw [if_pos rfl]; exact (ih p).step (hab p) _
    · rw [if_neg hp]; exact ih p
end
/-! What is read where a record isn't whole. -/
section
variable {X : Int → List (BitVec 8)} {num g : BitVec 64} {pos sz : Int} {b : List (BitVec 8)} {n t : Nat}
theorem rec_stop (hg : g.toNat < 4294967296) (hg0 : g ≠ 0#64) (hr : num.toNat < 4294967296) (hn : n = blocksN b.length) (h1 : n ≤ 2048) (hs : pos + (n : Int) ≤ sz) (ht : t < n) (hX : ∀ k : Nat, k < t → X (k : Int) = blkOf g num n b k) (hb : badB (X (t : Int)) g num t = true) :
    ∀ (m i : Nat), i + m = t → ∀ (g0 : BitVec 64) (acc : List (BitVec 8)), (g0 = g ∨ g0 = 0#64 ∧ i < t) → recB X num pos ((sz - pos).toNat - i) i g0 acc = recN := by
  intro m
  induction m with
  | zero =>
    intro i hi g0 acc h0
    obtain rfl : i = t := by omega
    have e0 : g0 = g := by
      rcases h0 with h | h
      · exact h
      · omega
    subst e0
    have eg : genF g0 (X (i : Int)) = g0 := by unfold genF; rw [if_neg (by rw [beq_iff_eq]; exact hg0)]
    exact rec_bad (X := X) (num := num) (g := g0) (pos := pos) (sz := sz) (k := i) (acc := acc) oM rfl (by rw [eg]; exact hb) rfl
  | succ m ih =>
    intro i hi g0 acc h0
    have hx := hX i oM
    have eg : genF g0 (X (i : Int)) = g := by
      rcases h0 with rfl | ⟨rfl, _⟩
      · unfold genF; rw [if_neg (by rw [beq_iff_eq]; exact hg0)]
      · rw [← genF_t (g := 0#64) rfl, hx]; exact (blk_facts hg hr hn (show i < n by omega) h1).1
    have hm := rec_more (X := X) (num := num) (g := g0) (pos := pos) (sz := sz) (k := i) (acc := acc) (y := X (i : Int)) (r := recB X num pos ((sz - pos).toNat - i) i g0 acc) oM rfl (by rw [eg, hx]; exact blk_good hg hg0 hr hn oM h1) (by rw [hx, blk_last hg hr hn oM h1]; exact decide_eq_false oM) rfl
    rw [← hm, eg]
    exact ih (i + 1) oM g _ (.inl rfl)
end
/-- A half whose records are these. -/
structure RDs (Ls : List (List (BitVec 8))) (fr h : Nat) (g : BitVec 64) (L : List (List (BitVec 8))) : Prop where
  len : fr + h ≤ Ls.length
  small : h ≤ 2000
  room : roomB L ≤ h
  pos : 0 < L.length
  g1 : 1 ≤ g.toNat
  g2 : g.toNat < 4294967296
  laid : LaidP Ls fr g L
  stop : recF Ls [] (fr : Int) (h : Int) g (BitVec.ofInt 64 (L.length : Int)) (roomB L : Int) = recN
section
variable {Ls : List (List (BitVec 8))} {fr h : Nat} {g : BitVec 64} {L : List (List (BitVec 8))}
theorem RDs.ne0 (J : RDs Ls fr h g L) : g ≠ 0#64 := by intro e; have := J.g1; rw [e] at this; simp at this
theorem RDs.recAt (J : RDs Ls fr h g L) {j : Nat} (hj : j < L.length) {g0 : BitVec 64} (h0 : g0 = 0#64 ∨ g0 = g) {m pos : Int} (hm : m = (j : Int)) (hpos : pos = (roomB (L.take j) : Int)) :
    recF Ls [] (fr : Int) (h : Int) g0 (BitVec.ofInt 64 m) pos = ⟨L.getD j [], g, (roomB (L.take (j + 1)) : Int), true⟩ := by
  subst hm hpos
  have hs := roomT_S hj
  have hl := roomT_le (L := L) (j + 1)
  have hr := J.room; have hln := J.len; have hsm := J.small
  have hb := blocksN_pos (L.getD j []).length
  have hjr := recs_le (L := L) (j := j) oM
  have := rec_laid (X := fun i => readB Ls [] ((fr : Int) + (roomB (L.take j) : Int) + i)) (num := BitVec.ofInt 64 (j : Int)) (g := g) (pos := (roomB (L.take j) : Int)) (sz := (h : Int)) (b := L.getD j []) (n := blocksN (L.getD j []).length)
    J.g2 J.ne0 (by rw [ofInt_nat oM]; omega) rfl oM oM
    (fun k hk => by rw [readB_at (p := fr + roomB (L.take j) + k) oM (by push_cast; omega)]; exact J.laid j hj k hk) (blocksN (L.getD j []).length - 1) 0 oM g0 h0
  have e0 : (L.getD j []).take (42 * 0) = [] := by simp
  rw [e0, Nat.sub_zero] at this
  unfold recF
  rw [this, hs]; congr 1
theorem RDs.loop (J : RDs Ls fr h g L) : ∀ (m j f : Nat), j + m = L.length → 0 < j → m < f →
    loopH (fun g n p => recF Ls [] (fr : Int) (h : Int) g n p) f ⟨g, L.take j, (roomB (L.take j) : Int)⟩ g (recF Ls [] (fr : Int) (h : Int) g (BitVec.ofInt 64 (j : Int)) (roomB (L.take j) : Int)) = ⟨g, L, (roomB L : Int)⟩ := by
  intro m
  induction m with
  | zero =>
    intro j f hj h0 hf
    have ej : L.take j = L := List.take_of_length_le oM
    obtain rfl : j = L.length := by omega
    rw [ej, J.stop]
    exact (loopH_end (q := recN) rfl rfl).symm ▸ rfl
  | succ m ih =>
    intro j f hj h0 hf
    obtain ⟨f, rfl⟩ : ∃ f', f = f' + 1 := ⟨f - 1, by omega⟩
    rw [J.recAt oM (.inr rfl) rfl rfl]
    have := ih (j + 1) f oM oM oM
    rw [← this]
    have e1 : L.take j ++ [L.getD j []] = L.take (j + 1) := take_snoc oM
    have e2 : ((L.take j).length : Int) + 1 = ((j + 1 : Nat) : Int) := by simp; omega
    show (if _ then loopH _ f ⟨g, L.take j ++ [L.getD j []], _⟩ g (recF _ _ _ _ g (BitVec.ofInt 64 (((L.take j).length : Int) + 1)) _) else _) = _
    rw [if_pos rfl, e1, e2]
theorem RDs.read (J : RDs Ls fr h g L) : readH Ls [] (fr : Int) (h : Int) = ⟨g, L, (roomB L : Int)⟩ := by
  have hp := J.pos; have hr := J.room
  have hlr := room_len (L := L)
  unfold readH
  rw [J.recAt (j := 0) hp (.inl rfl) (m := 0) (pos := 0) rfl rfl]
  have := J.loop (L.length - 1) 1 ((h : Int).toNat) oM oM oM
  rw [← this]
  have e1 : L.take 1 = [L.getD 0 []] := getD_take1 hp
  show (if _ then loopH _ (h : Int).toNat ⟨g, [] ++ [L.getD 0 []], _⟩ g (recF _ _ _ _ g (BitVec.ofInt 64 ((([] : List (List (BitVec 8))).length : Int) + 1)) _) else _) = _
  rw [if_pos rfl, e1, List.nil_append]; rfl
theorem old_of {a : Int} (hI : (Ls.length : Int) / 2 = (h : Int)) (hfr : fr = 0 ∨ fr = h) (h1 : 1 ≤ g.toNat) (hrd : readH Ls [] (fr : Int) (h : Int) = ⟨g, L, a⟩)
    (ho : ∀ fo : Nat, (fo = h ∧ fr = 0 ∨ fo = 0 ∧ fr = h) → (readH Ls [] (fo : Int) (h : Int)).gen.toNat ≤ g.toNat - 1) : oldB Ls [] = ((fr : Int), L) := by
  have hg0 : (g == 0#64) = false := by rw [beq_eq_false_iff_ne]; intro e; rw [e] at h1; simp at h1
  unfold oldB
  rw [hI]
  rcases hfr with rfl | rfl
  · have := ho h (.inl ⟨rfl, rfl⟩)
    have e0 : ((0 : Nat) : Int) = 0 := rfl
    rw [e0] at hrd
    simp only [hrd]
    rw [if_neg oM, if_neg (by rw [hg0]; simp)]; rfl
  · have := ho 0 (.inr ⟨rfl, rfl⟩)
    have e0 : ((0 : Nat) : Int) = 0 := rfl
    rw [e0] at this
    simp only [hrd]
    rw [if_pos oM, if_neg (by rw [hg0]; simp)]
theorem half_nok {fr sz : Int} {ps : List WriteT} (hok : ¬ (recF Ls ps fr sz 0#64 (BitVec.ofInt 64 (0 : Int)) (0 : Int)).ok = true) : (readH Ls ps fr sz).gen = 0#64 := by
  unfold readH
  show (if _ then _ else _ : HalfT).gen = _
  rw [if_neg hok]
theorem rec0_ok {fr sz : Int} {ps : List WriteT} (hok : (recF Ls ps fr sz 0#64 (BitVec.ofInt 64 (0 : Int)) (0 : Int)).ok = true) : ((readB Ls ps fr).drop 0).take 10 = ((readB Ls ps fr).drop 54).take 10 := by
  unfold recF at hok
  cases hf : (sz - 0).toNat with
  | zero => rw [hf] at hok; cases hok
  | succ f =>
    rw [hf] at hok
    unfold recB at hok
    have e : fr + 0 + ((0 : Nat) : Int) = fr := by simp
    rw [e] at hok
    by_cases hb : badB (readB Ls ps fr) (genF 0#64 (readB Ls ps fr)) (BitVec.ofInt 64 (0 : Int)) 0 = true
    · rw [if_pos hb] at hok; cases hok
    · unfold badB at hb
      by_cases hv : (((readB Ls ps fr).drop 0).take 10 == ((readB Ls ps fr).drop 54).take 10) = true
      · exact eq_of_beq hv
      · rw [Bool.not_eq_true] at hv
        rw [hv] at hb; simp at hb
end
theorem first_no {P : Nat → Prop} {n : Nat} (h : ∃ t, t < n ∧ ¬ P t) : ∃ t, t < n ∧ ¬ P t ∧ ∀ k, k < t → P k := by
  obtain ⟨t, ht, hp⟩ := h
  induction t using Nat.strongRecOn with
  | ind t ih =>
    by_cases h : ∀ k, k < t → P k
    · exact ⟨t, ht, hp, h⟩
    · obtain ⟨k, h2⟩ := Classical.not_forall.1 h
      obtain ⟨hk, hkp⟩ := Classical.not_imp.1 h2
      exact ih k hk oM hkp
section
variable {Ls Ls2 Ls3 : List (List (BitVec 8))} {fr fr2 hh : Nat} {g g2 : BitVec 64} {L L2 : List (List (BitVec 8))}
theorem whole_crash (J : JI Ls fr hh g L) (J2 : JI Ls2 fr2 hh g2 L2) (hs : StepC hh Ls fr g L Ls2 fr2 g2 L2) (hg2 : g2.toNat ≤ 1000) (hg : g.toNat ≤ 1000) (hl2 : Ls2.length = Ls.length) (hl3 : Ls3.length = Ls.length)
    (ht : ∀ p, Torn (Ls.getD p []) (Ls2.getD p []) (Ls3.getD p [])) : ((oldB Ls3 []).2 = L ∨ (oldB Ls3 []).2 = L2) ∧ (∀ x ∈ Ls3, x.length = 64) ∧ (newB Ls3 [] == 0#64) = false := by
  have hln := J.len; have hrm := J.room; have hps := J.pos; have hhf := J.half; have hg1 := J.g1; have hlr := room_len (L := L)
  have o64 : ∀ p, p < Ls.length → (Ls.getD p []).length = 64 := fun p hp => getD_all J.all hp
  have x64 : ∀ p, p < Ls.length → (Ls2.getD p []).length = 64 := fun p hp => getD_all J2.all oM
  have same : ∀ p, Ls2.getD p [] = Ls.getD p [] → Ls3.getD p [] = Ls.getD p [] := fun p e => by
    have := ht p
    rw [e] at this; exact this.same
  have G1 := J.okG
  have G2 := J2.okG
  have hG3 : okG 16777215 Ls3 := fun x hx => by
    obtain ⟨p, hp, rfl⟩ := List.mem_iff_getElem.1 hx
    rw [el_getD (d := []) hp]
    exact ⟨(ht p).len (o64 p oM) (x64 p oM), torn_gens (G := 1000) (o64 p oM) (x64 p oM) (ht p) oM
      (GB_mono (G1 _ (getD_mem (show p < Ls.length by omega))).2 hg) (GB_mono (G2 _ (getD_mem (show p < Ls2.length by omega))).2 hg2)⟩
  refine ⟨?_, fun x hx => (hG3 x hx).1, (new_le hG3 (by decide)).1⟩
  have ext2 : (∀ p, p < Ls.length → Ls3.getD p [] = Ls2.getD p []) → Ls3 = Ls2 := fun h => by
    apply List.ext_getElem oM
    intro p h1 h2
    rw [el_getD (d := []) h1, el_getD (d := []) h2]; exact h p oM
  have hI : (Ls3.length : Int) / 2 = (hh : Int) := by omega
  by_cases hall : ∀ p, p < Ls.length → Ls3.getD p [] = Ls2.getD p []
  · right
    rw [ext2 hall, J2.old]
  left
  obtain ⟨p, hp1⟩ := Classical.not_forall.1 hall
  obtain ⟨hp, hpne⟩ := Classical.not_imp.1 hp1
  rcases hs with ⟨e, _, _, _⟩ | ⟨rfl, rfl, ⟨b, rfl⟩, hk⟩ | ⟨hf2, hgg, ⟨b, rfl⟩, hk⟩
  · exact absurd (by rw [same p (by rw [e]), e]) hpne
  · have hrs := room_snoc L b
    have hr2 := J2.room
    have hin : fr2 + roomB L ≤ p ∧ p < fr2 + roomB (L ++ [b]) := by
      by_cases h : fr2 + roomB L ≤ p ∧ p < fr2 + roomB (L ++ [b])
      · exact h
      · have e := hk p hp h
        exact absurd (by rw [same p e, e]) hpne
    obtain ⟨t, htn, hbad, hgood⟩ := first_no (P := fun t => Ls3.getD (fr2 + roomB L + t) [] = Ls2.getD (fr2 + roomB L + t) []) (n := blocksN b.length) ⟨p - (fr2 + roomB L), by omega, by rw [show fr2 + roomB L + (p - (fr2 + roomB L)) = p by omega]; exact hpne⟩
    have hnew : ∀ k, k < blocksN b.length → Ls2.getD (fr2 + roomB L + k) [] = blkOf g2 (BitVec.ofInt 64 (L.length : Int)) (blocksN b.length) b k := fun k hk => by
      have e1 : (L ++ [b]).getD L.length [] = b := by simp [List.getD_eq_getElem?_getD]
      have e2 : (L ++ [b]).take L.length = L := List.take_left' rfl
      have := J2.laid L.length (by simp) k (by rw [e1]; exact hk)
      rw [e1, e2] at this; exact this
    have hsm := J.small
    have hrd : RDs Ls3 fr2 hh g2 L := by
      refine ⟨by omega, J.small, J.room, J.pos, J.g1, J.g2, fun j hj k hk2 => ?_, ?_⟩
      · have hs1 := roomT_S hj
        have hs2 := roomT_le (L := L) (j + 1)
        rw [same _ (hk _ oM oM)]; exact J.laid j hj k hk2
      · unfold recF
        refine rec_stop (X := fun i => readB Ls3 [] ((fr2 : Int) + (roomB L : Int) + i)) (g := g2) (num := BitVec.ofInt 64 (L.length : Int)) (pos := (roomB L : Int)) (sz := (hh : Int)) (b := b) (n := blocksN b.length) (t := t) J.g2 J.ne0 (by rw [ofInt_nat oM]; omega) rfl oM oM htn (fun k hkt => ?_) ?_ t 0 oM g2 [] (.inl rfl)
        · show readB Ls3 [] ((fr2 : Int) + (roomB L : Int) + (k : Int)) = _
          rw [readB_at (p := fr2 + roomB L + k) oM (by push_cast; omega), hgood k hkt]; exact hnew k oM
        · show badB (readB Ls3 [] ((fr2 : Int) + (roomB L : Int) + (t : Int))) _ _ _ = true
          rw [readB_at (p := fr2 + roomB L + t) oM (by push_cast; omega)]
          have htt := ht (fr2 + roomB L + t)
          rw [hnew t htn] at htt
          exact torn_bad (o64 _ oM) htt (by rw [← hnew t htn]; exact hbad) (J.rest _ oM oM).2 J.g1
    have := old_of hI J.half J.g1 hrd.read fun fo hfo => by
      rcases half_gen (Ls := Ls3) (ps := []) (fr := (fo : Int)) (sz := (hh : Int)) with e | ⟨e, _⟩
      · rw [e]; exact Nat.zero_le _
      · rw [e, readB_at (p := fo) oM rfl, same _ (hk _ oM oM)]
        exact (J.rest fo oM oM).1
    rw [this]
  · have hr1 := room_1 b
    have hr2 := J2.room
    have hin : fr2 ≤ p ∧ p < fr2 + roomB [b] := by
      by_cases h : fr2 ≤ p ∧ p < fr2 + roomB [b]
      · exact h
      · have e := hk p hp h
        exact absurd (by rw [same p e, e]) hpne
    obtain ⟨t, htn, hbad, hgood⟩ := first_no (P := fun t => Ls3.getD (fr2 + t) [] = Ls2.getD (fr2 + t) []) (n := blocksN b.length) ⟨p - fr2, by omega, by rw [show fr2 + (p - fr2) = p by omega]; exact hpne⟩
    have hnew : ∀ k, k < blocksN b.length → Ls2.getD (fr2 + k) [] = blkOf g2 (BitVec.ofInt 64 ((0 : Nat) : Int)) (blocksN b.length) b k := fun k hk => by
      have := J2.laid 0 (by simp) k hk
      have e0 : roomB (([b] : List (List (BitVec 8))).take 0) = 0 := rfl
      rw [e0, Nat.add_zero] at this; exact this
    have hsm := J.small
    have hrd : RDs Ls3 fr hh g L := by
      refine ⟨by omega, J.small, J.room, J.pos, J.g1, J.g2, fun j hj k hk2 => ?_, ?_⟩
      · have hs1 := roomT_S hj
        have hs2 := roomT_le (L := L) (j + 1)
        rw [same _ (hk _ oM oM)]; exact J.laid j hj k hk2
      · unfold recF
        by_cases e : roomB L = hh
        · have : ((hh : Int) - (roomB L : Int)).toNat = 0 := by omega
          rw [this]; rfl
        · have hb := J.rest (fr + roomB L) oM oM
          refine rec_bad (X := fun i => readB Ls3 [] ((fr : Int) + (roomB L : Int) + i)) (num := BitVec.ofInt 64 (L.length : Int)) (g := g) (pos := (roomB L : Int)) (sz := (hh : Int)) (k := 0) (acc := []) (y := Ls3.getD (fr + roomB L) []) oM (by rw [readB_at (p := fr + roomB L) oM (by push_cast; omega)]) ?_ rfl
          rw [same _ (hk _ oM oM)]
          have eg : genF g (Ls.getD (fr + roomB L) []) = g := by unfold genF; rw [if_neg (by rw [beq_iff_eq]; exact J.ne0)]
          rw [eg]
          have hne : (gOf (Ls.getD (fr + roomB L) []) != g) = true := by
            rw [bne_iff_ne]; intro e2
            have := hb.1
            unfold gOf at e2; rw [e2] at this; omega
          unfold badB; rw [hne]; simp
    have hother : (readH Ls3 [] (fr2 : Int) (hh : Int)).gen.toNat ≤ g.toNat - 1 := by
      by_cases hok : (recF Ls3 [] (fr2 : Int) (hh : Int) 0#64 (BitVec.ofInt 64 (0 : Int)) (0 : Int)).ok = true
      · by_cases h0 : t = 0
        · subst h0
          rcases half_gen (Ls := Ls3) (ps := []) (fr := (fr2 : Int)) (sz := (hh : Int)) with e | ⟨e, _⟩
          · rw [e]; exact Nat.zero_le _
          · have hv := rec0_ok hok
            rw [readB_at (p := fr2) oM rfl] at hv e
            have htt := ht fr2
            have hn0 := hnew 0 htn
            rw [Nat.add_zero] at hn0 hbad
            rw [hn0] at htt hbad
            rw [e, torn_valid (o64 _ oM) htt hbad hv]
            exact (J.rest fr2 oM oM).2
        · exfalso
          have : recF Ls3 [] (fr2 : Int) (hh : Int) 0#64 (BitVec.ofInt 64 (0 : Int)) (0 : Int) = recN := by
            unfold recF
            refine rec_stop (X := fun i => readB Ls3 [] ((fr2 : Int) + (0 : Int) + i)) (g := g2) (num := BitVec.ofInt 64 ((0 : Nat) : Int)) (pos := (0 : Int)) (sz := (hh : Int)) (b := b) (n := blocksN b.length) (t := t) J2.g2 J2.ne0 (by decide) rfl oM oM htn (fun k hkt => ?_) ?_ t 0 oM 0#64 [] (.inr ⟨rfl, by omega⟩)
            · show readB Ls3 [] ((fr2 : Int) + (0 : Int) + (k : Int)) = _
              rw [readB_at (p := fr2 + k) oM (by push_cast; omega), hgood k hkt]; exact hnew k oM
            · show badB (readB Ls3 [] ((fr2 : Int) + (0 : Int) + (t : Int))) _ _ _ = true
              rw [readB_at (p := fr2 + t) oM (by push_cast; omega)]
              have htt := ht (fr2 + t)
              rw [hnew t htn] at htt
              exact torn_bad (o64 _ oM) htt (by rw [← hnew t htn]; exact hbad) (by have := (J.rest (fr2 + t) oM oM).2; omega) J2.g1
          rw [this] at hok; cases hok
      · rw [half_nok hok]; exact Nat.zero_le _
    have := old_of hI J.half J.g1 hrd.read fun fo hfo => by
      obtain rfl : fo = fr2 := by omega
      exact hother
    rw [this]
end
theorem crash_diff {a b : List (List (BitVec 8))} {q : List (BitVec 8)} {n : Nat} (hl : b.length = a.length) (ha : ∀ x ∈ a, x.length = 64) (hb : ∀ x ∈ b, x.length = 64) : ∀ p, Torn (a.getD p []) (b.getD p []) ((crashB a (diffK a b n) q).getD p []) := by
  refine crash_torn (q := picksB q) (fun p => ?_) (fun w hw => diff_mem n w hw) _ (Nat.le_refl _)
  rcases Nat.lt_or_ge p a.length with h | h
  · rw [getD_all ha h, getD_all hb oM]
  · rw [List.getD_eq_getElem?_getD, List.getD_eq_getElem?_getD, List.getElem?_eq_none h, List.getElem?_eq_none oM]
attribute [local irreducible] crashB crashK pushB readB inB errB cutN seenW
attribute [local irreducible] markB putB getB getK partB placeF blkOf rawB writeK blocksN
attribute [local irreducible] mostK newB roomB
attribute [local irreducible] recB recF recN genF badB lastP dataB gOf rOf pOf nOf loopH readH
attribute [local irreducible] okP layK turnL turnP oldB
attribute [local irreducible] openD
attribute [local irreducible] natB tkN tkOk kN vN_ oneOk oneR decF decP decV decE rightB encK recP num2 num4 allR goneB encV encE encL encS doO openK openS okS doK commitF lkA keysB
set_option maxHeartbeats 2000000 in
theorem c_cloneB (v : Value) (l : List (List (BitVec 8))) (w0 : World)  (hr : RdK (blks w0) (encA u8) 64 v l) (hl : l.length ≤ 1048576) : CallsR Try.prog 68 #[v] w0 (fun r w1 => ∃ Hs, GrowK (encA u8) 64 83 r l Hs ∧ Mem w1 (restOf w0) Hs) := by
 refine callsR_of_cw (args := [v]) Try.func68 rfl Try.ntmps68 Try.results68 rfl ?_
 have hm0 : Mem w0 (restOf w0) [] := Mem.of_world w0
 refine sR <| rw_q rfl (ev_assign (v := (Value.slice none 0 0)) rfl) ?_
 refine rN (cw_seq (sR ?_))
 refine rM rfl (v := v) rfl <| rw_q rfl (ev_slnil_rk (RdK.ofRest hr hm0) uT40 rfl rfl) <| rN ?_
 refine cw_cond rfl (fun hc1 => ?_) (fun hc1 => ?_)
 · -- true
   refine sR <| rw_q rfl (ev_assign (v := (Value.slice none 0 0)) rfl) ?_
   refine rN (cw_ret (kThen_ret ?_))
   refine fnPost_ret [(Value.slice none 0 0)] ⟨rfl, trivial⟩ ?_
   exact ⟨[], GrowK.cast (GrowK.none (encA u8) 64 83) (slnil_nil hr hc1), hm0⟩
 · -- false
   refine cw_skip (kThen_normal (sR ?_))
   refine rw_c rfl (or_buildSlice_p (c := #[]) hm0 uT40 ti83 rfl pm_nil (by kernel_rfl)) ?_
   rintro _ w2 ⟨b5, rfl, _ew2, hm2⟩
   have hm2 : Mem w2 (restOf w0) [(b5, .cells #[] 83 (0, 0))] := hm2
   refine rM rfl (v := v) rfl <| rw_c rfl (or_appendK (enc := (encA u8)) (k := 64) (Hs := [(b5, .cells #[] 83 (0, 0))]) (H := []) hm2 (GrowK.of (encA u8) 64 83 b5 [] rfl (by simp)) rfl rfl (RdK.ofRest hr hm2) uT40 uT40 ti83 rfl rfl (fun _ _ => encA_one u8_one _) sL sL) ?_
   rintro sv3 w3 ⟨Hs3, hm3, g3⟩
   replace g3 : GrowK (encA u8) 64 83 sv3 l Hs3 := g3
   refine rA rfl (v := sv3) rfl ?_
   refine rN (cw_ret ?_)
   refine fnPost_ret [sv3] ⟨rfl, trivial⟩ ?_
   exact ⟨Hs3, GrowK.cast g3 (by simp), by simpa using hm3⟩

set_option maxHeartbeats 2000000 in
theorem c_cloneW (v : Value) (l : List WriteT) (w0 : World)  (hr : RdK (blks w0) encW 65 v l) (hl : l.length ≤ 1048576) : CallsR Try.prog 69 #[v] w0 (fun r w1 => ∃ Hs, GrowK encW 65 104 r l Hs ∧ Mem w1 (restOf w0) Hs) := by
 refine callsR_of_cw (args := [v]) Try.func69 rfl Try.ntmps69 Try.results69 rfl ?_
 have hm0 : Mem w0 (restOf w0) [] := Mem.of_world w0
 refine sR <| rw_q rfl (ev_assign (v := (Value.slice none 0 0)) rfl) ?_
 refine rN (cw_seq (sR ?_))
 refine rM rfl (v := v) rfl <| rw_q rfl (ev_slnil_rk (RdK.ofRest hr hm0) uT92 rfl rfl) <| rN ?_
 refine cw_cond rfl (fun hc1 => ?_) (fun hc1 => ?_)
 · -- true
   refine sR <| rw_q rfl (ev_assign (v := (Value.slice none 0 0)) rfl) ?_
   refine rN (cw_ret (kThen_ret ?_))
   refine fnPost_ret [(Value.slice none 0 0)] ⟨rfl, trivial⟩ ?_
   exact ⟨[], GrowK.cast (GrowK.none encW 65 104) (slnil_nil hr hc1), hm0⟩
 · -- false
   refine cw_skip (kThen_normal (sR ?_))
   refine rw_c rfl (or_buildSlice_p (c := #[]) hm0 uT92 ti104 rfl pm_nil (by kernel_rfl)) ?_
   rintro _ w2 ⟨b5, rfl, _ew2, hm2⟩
   have hm2 : Mem w2 (restOf w0) [(b5, .cells #[] 104 (0, 0))] := hm2
   refine rM rfl (v := v) rfl <| rw_c rfl (or_appendK (enc := encW) (k := 65) (Hs := [(b5, .cells #[] 104 (0, 0))]) (H := []) hm2 (GrowK.of encW 65 104 b5 [] rfl (by simp)) rfl rfl (RdK.ofRest hr hm2) uT92 uT92 ti104 rfl rfl (fun a _ => encW_one a) sL sL) ?_
   rintro sv3 w3 ⟨Hs3, hm3, g3⟩
   replace g3 : GrowK encW 65 104 sv3 l Hs3 := g3
   refine rA rfl (v := sv3) rfl ?_
   refine rN (cw_ret ?_)
   refine fnPost_ret [sv3] ⟨rfl, trivial⟩ ?_
   exact ⟨Hs3, GrowK.cast g3 (by simp), by simpa using hm3⟩

set_option maxHeartbeats 2000000 in
theorem c_twin (bd : Nat) (vl : Value) (ls : List (List (BitVec 8))) (vp : Value) (ps : List WriteT) (w0 : World)  (hd : blks w0 bd = some (.cells #[vl, vp] 94 (0, 0))) (hrl : RdK (blks w0) (encA u8) 64 vl ls) (hrp : RdK (blks w0) encW 65 vp ps) (hat : ∀ i, i < ps.length → 0 ≤ (ps.getD i write0).at_ ∧ (ps.getD i write0).at_ < (ls.length : Int)) (hll : ls.length ≤ 65536) (hpl : ps.length ≤ 1048576) : CallsR Try.prog 48 #[(ptr bd 0)] w0 (fun r w1 => ∃ bt vt Ht, r = ptr bt 0 ∧ GrowK (encA u8) 64 83 vt (crashB ls ps [1#8]) Ht ∧ Mem w1 (restOf w0) ([(bt, .cells #[vt, .slice none 0 0] 94 (0, 0))] ++ Ht)) := by
 refine callsR_of_cw (args := [(ptr bd 0)]) Try.func48 rfl Try.ntmps48 Try.results48 rfl ?_
 have hm0 : Mem w0 (restOf w0) [] := Mem.of_world w0
 refine sR <| rw_q rfl (ev_assign (v := (Value.pointer none)) rfl) ?_
 refine rN (cw_seq ?_)
 refine cw_draw [(0, false), (1, false), (2, false), (3, false), (5, false), (6, false), (7, false), (8, false), (4, true)] 9 (by kernel_rfl) <| dw_q rfl rfl (fun _ _hx => ev_move (v := (ptr bd 0)) rfl) <| dw_q rfl rfl (fun _ _hx => ev_nilCheck rfl) <| dw_q rfl rfl (fun _ _hx => ev_fa (r := 0) uT94 rfl (by first | rfl | omega) ti40 rfl rfl) <| dw_q (v := vl) rfl rfl (fun _ _hx => ev_load1 uT40 rfl rfl ((hm0.ext _hx).rest _ _ hd) rfl) <| dw_q rfl rfl (fun _ _hx => ev_move (v := (ptr bd 0)) rfl) ?_
 refine dw_q rfl rfl (fun _ _hx => ev_nilCheck rfl) <| dw_q rfl rfl (fun _ _hx => ev_fa (r := 1) uT94 rfl (by first | rfl | omega) ti92 rfl rfl) <| dw_q (v := vp) rfl rfl (fun _ _hx => ev_load1 uT92 rfl rfl ((hm0.ext _hx).rest _ _ hd) rfl) ?_
 refine dw_c rfl rfl (fun w1 _ew1 => ?_)
 have hm1 := hm0.ext _ew1
 refine OpR.mono (opR_call Try.func68 bd68 nm68 (args1 rfl) (c_cloneB vl ls _ (RdK.ofRest hrl hm1) sL)) ?_
 rintro rq3 w2 ⟨Hsq3, grq3, k_w2⟩
 refine ⟨k_w2.toExt, ?_⟩
 have hm2 : Mem w2 (restOf w0) (Hsq3 ++ ([])) := Mem.new (H := []) (H' := Hsq3) hm1 k_w2
 refine dw_nil (fun w4 _ew4 => ?_)
 have hm4 := hm2.ext _ew4
 refine rw_c rfl (opR_call Try.func69 bd69 nm69 (args1 rfl) (c_cloneW vp ps _ (RdK.ofRest hrp hm4) sL)) ?_
 rintro rq6 w5 ⟨Hsq6, grq6, k_w5⟩
 have hm5 : Mem w5 (restOf w0) (Hsq6 ++ (Hsq3 ++ ([]))) := Mem.new (H := Hsq3 ++ ([])) (H' := Hsq6) hm4 k_w5
 refine rw_q rfl (ev_build_pt (c := #[rq3, rq6]) (pl := [(0, 1), (1, 1)]) ti94 uT94 (by kernel_rfl) (pm_cons (i := 0) (v := rq3) (cs := #[rq3]) rfl (one_cells grq3.one) (pm_cons (i := 1) (v := rq6) (cs := #[rq6]) rfl (one_cells grq6.one) pm_nil)) (by kernel_rfl)) <| rw_c rfl (or_boxX (cs := #[rq3, rq6]) hm5 rfl) ?_
 rintro _ w7 ⟨b15, rfl, _ew7, hm7⟩
 refine rw_q rfl (ev_assign (v := (ptr b15 0)) rfl) ?_
 refine rN (sR ?_)
 refine rw_q rfl (ev_move (v := (ptr b15 0)) rfl) ?_
 have hF9 : Mem w7 (restOf w0) (([(b15, .cells #[rq3, rq6] 94 (0, 0))] ++ (Hsq3 ++ (Hsq6 ++ ([])))) ++ ([])) := by
   have hT := (Mem.pick2 Hsq3 Hsq6 [_] _ (Mem.pick2 Hsq6 [_] Hsq3 _ (Mem.pick [_] Hsq6 _ hm7)))
   try simp only [List.append_assoc, List.cons_append, List.nil_append, List.append_nil] at hT ⊢
   exact hT
 refine rw_c rfl (opR_call Try.func46 bd46 nm46 (args1 rfl) (c_dsync b15 rq3 ls Hsq3 rq6 ps Hsq6 _ _ (Mem.give hF9) grq3 grq6 hat sL sL)) ?_
 rintro _ w8 ⟨Hl2q10, rfl, gl2q10, k_w8⟩
 have hm8 : Mem w8 (restOf w0) ([(b15, .cells #[rq3, (Value.slice none 0 0)] 94 (0, 0))] ++ (Hl2q10 ++ ([]))) := (by
   have hT := Mem.back hF9 k_w8
   try simp only [List.append_assoc, List.cons_append, List.nil_append, List.append_nil] at hT ⊢
   exact hT)
 refine rN (sR ?_)
 refine rw_q rfl (ev_move (v := (ptr b15 0)) rfl) <| rw_q rfl (ev_assign (v := (ptr b15 0)) rfl) <| rN ?_
 refine CW.abs (fun g => g 0 = (ptr bd 0) ∧ g 2 = (ptr b15 0) ∧ g 3 = (ptr b15 0) ∧ True) ⟨rfl, rfl, rfl, trivial⟩ ?_
 rintro fr11 ⟨s0, s2, s3, _⟩
 refine cw_ret <| fnPost_ret [(ptr b15 0)] ⟨s2, trivial⟩ ?_
 exact ⟨b15, rq3, Hl2q10, rfl, gl2q10, (by
   have hT := hm8
   try simp only [List.append_assoc, List.cons_append, List.nil_append, List.append_nil] at hT ⊢
   exact hT)⟩

set_option maxHeartbeats 2000000 in
theorem c_sis_any (bs bj b : Nat) (S : List KV) (vv : Value) (vs : List PairT) (w0 : World)  (hs : blks w0 bs = some (.cells #[ptr bj 0, .map (some b)] 118 (0, 0))) (hmap : MapR (blks w0) b S) (hsm : SmallK S) (hsn : S.length ≤ 1048576) (hrv : RdK (blks w0) encP 3 vv vs) (hqv : ∀ a ∈ vs, Rd (blks w0) u8 (slv a.val) a.val.2) (hvl : ∀ a ∈ vs, a.key.size ≤ 1048576 ∧ a.val.2.length ≤ 1048576) (hvn : vs.length ≤ 1048576) : CallsR Try.prog 42 #[(ptr bs 0), vv] w0 (fun r w1 => ∃ x : Bool, r = bl x ∧ Mem w1 (restOf w0) []) := by
 refine callsR_of_cw (args := [(ptr bs 0), vv]) Try.func42 rfl Try.ntmps42 Try.results42 rfl ?_
 have hm0 : Mem w0 (restOf w0) [] := Mem.of_world w0
 have hka := keysB_all S
 have hkal : (keysB S ⟨#[]⟩).length = S.length := by rw [hka, List.length_map]
 refine sR <| rw_q rfl (ev_assign (v := (bl false)) rfl) ?_
 refine rN (cw_seq (sR ?_))
 refine rw_q rfl (ev_move (v := (ptr bs 0)) rfl) <| rw_q rfl (ev_ptr_nil_eql uT70 rfl rfl) <| rN <| cw_cond_f rfl (by decide) ?_
 refine cw_skip (kThen_normal (sR ?_))
 refine rw_q rfl (ev_move (v := (ptr bs 0)) rfl) <| rw_c rfl (opR_call Try.func43 bd43 nm43 (args2 rfl rfl) (c_skeys bs bj b S (⟨#[]⟩) _ (hm0.rest _ _ hs) (MapR.ofRest (R := (restOf w0)) hmap hm0) hsm sL)) ?_
 rintro rq2 w1 ⟨Hsq2, grq2, k_w1⟩
 have hm1 : Mem w1 (restOf w0) (Hsq2 ++ ([])) := Mem.new (H := []) (H' := Hsq2) hm0 k_w1
 refine rA rfl (v := rq2) rfl ?_
 refine rN (cw_seq (sR ?_))
 refine rM rfl (v := rq2) rfl <| rw_q (v := (i64 ((keysB S (⟨#[]⟩)).length : Int))) rfl (ev_len_rd (grq2.rd hm1) uT76 rfl) <| rM rfl (v := vv) rfl <| rw_q (v := (i64 (vs.length : Int))) rfl (ev_len_rk (RdK.ofRest hrv hm1) uT55 rfl) <| rw_q rfl (ev_i64_neq rfl rfl) <| rN ?_
 refine cw_cond rfl (fun hc3 => ?_) (fun hc3 => ?_)
 · -- true
   have hc3p := bne_iff_ne.1 hc3
   refine sR <| rw_q rfl (ev_assign (v := (bl false)) rfl) ?_
   refine rN (cw_ret (kThen_ret ?_))
   refine fnPost_ret [(bl false)] ⟨rfl, trivial⟩ ?_
   have hm4 := Mem.drop Hsq2 _ hm1
   exact ⟨false, rfl, hm4⟩
 · -- false
   have hc3p := eq_of_bne_false hc3
   refine cw_skip (kThen_normal (cw_seq (sR ?_)))
   refine rM rfl (v := rq2) rfl <| rw_q (v := (i64 ((keysB S (⟨#[]⟩)).length : Int))) rfl (ev_len_rd (grq2.rd hm1) uT76 rfl) <| rw_q rfl (ev_move (v := (i64 0)) rfl) ?_
   refine rN (cw_block ?_)
   refine cw_loop (fun g wv => ∃ (k : Nat), (k ≤ (keysB S ⟨#[]⟩).length) ∧ g 0 = (ptr bs 0) ∧ g 1 = vv ∧ g 5 = rq2 ∧ g 11 = (bl false) ∧ g 18 = (bl (((keysB S (⟨#[]⟩)).length : Int) != (vs.length : Int))) ∧ g 19 = rq2 ∧ g 20 = (i64 ((keysB S (⟨#[]⟩)).length : Int)) ∧ g 21 = (i64 (k : Int)) ∧ Mem wv (restOf w0) (Hsq2 ++ ([]))) (fun g wv => (((keysB S ⟨#[]⟩).length : Int) - RowKit.intOf (g 21)).toNat) ?_ ?_
   · exact ⟨0, (Nat.zero_le _), rfl, rfl, rfl, rfl, rfl, rfl, rfl, rfl, (by
     have hT := hm1
     try simp only [List.append_assoc, List.cons_append, List.nil_append, List.append_nil] at hT ⊢
     exact hT)⟩
   · rintro fr5 w6 ⟨k, hk, s0, s1, s5, s11, s18, s19, s20, s21, hm6⟩
     have z21 := s21
     refine sR <| rw_q rfl (ev_i64_lss s21 s20) ?_
     refine rN (cw_seq ?_)
     refine cw_cond rfl (fun hc7 => ?_) (fun hc7 => ?_)
     · -- true
       have hc7p := of_decide_eq_true hc7
       have hkS : k < S.length := by omega
       have hkv : k < vs.length := by omega
       have hvb : ((lkA S ((keysB S ⟨#[]⟩).getD k ByteArray.empty)).getD []).length ≤ 1048576 := hsm.val _
       have hvk := hvl _ (getD_mem (d := pair0) hkv)
       refine cw_skip (kThen_normal (cw_seq (cw_block (sR ?_))))
       refine rM rfl s21 <| rw_q rfl (ev_indexAddr_rdv (grq2.rd hm6) uT76 ti9 s19 s21 oM sL) <| rw_q (v := (Value.string ((keysB S (⟨#[]⟩)).getD k ByteArray.empty))) rfl (ev_load_rdD (l := (keysB S (⟨#[]⟩))) (i := (k : Int)) (dflt := ByteArray.empty) (grq2.rd hm6) uT9 rfl oM sL rfl) <| rw_q rfl (ev_assign (v := (i64 (k : Int))) rfl) <| rw_q rfl (ev_assign (v := (Value.string ((keysB S (⟨#[]⟩)).getD k ByteArray.empty))) rfl) ?_
       refine rN (sR ?_)
       refine rM rfl s0 <| rw_q rfl (ev_move (v := (Value.string ((keysB S (⟨#[]⟩)).getD k ByteArray.empty))) rfl) <| rw_c rfl (opR_call Try.func47 bd47 nm47 (args2 rfl rfl) (c_sget bs bj b S ((keysB S (⟨#[]⟩)).getD k ByteArray.empty) _ (hm6.rest _ _ hs) (MapR.ofRest (R := (restOf w0)) hmap hm6) hsm sL)) ?_
       rintro _ w8 ⟨vq9, Hsq9, rfl, grq9, k_w8⟩
       have hm8 : Mem w8 (restOf w0) (Hsq9 ++ (Hsq2 ++ ([]))) := Mem.new (H := Hsq2 ++ ([])) (H' := Hsq9) hm6 k_w8
       refine rM rfl rfl <| rw_q (v := vq9) rfl (ev_extract rfl rfl) <| rw_q (v := (bl ((lkA S ((keysB S (⟨#[]⟩)).getD k ByteArray.empty)).isSome))) rfl (ev_extract rfl rfl) <| rA rfl (v := vq9) rfl <| rw_q rfl (ev_assign (v := (bl ((lkA S ((keysB S (⟨#[]⟩)).getD k ByteArray.empty)).isSome))) rfl) ?_
       refine rN (sR ?_)
       refine rw_q rfl (ev_move (v := (bl ((lkA S ((keysB S (⟨#[]⟩)).getD k ByteArray.empty)).isSome))) rfl) <| rw_q rfl (ev_not rfl) <| rw_q rfl (ev_move (v := (bl (!((lkA S ((keysB S (⟨#[]⟩)).getD k ByteArray.empty)).isSome)))) rfl) ?_
       rcases Bool.eq_false_or_eq_true (!((lkA S ((keysB S (⟨#[]⟩)).getD k ByteArray.empty)).isSome)) with hb10 | hb10
       · -- true
         have hb10n : ((lkA S ((keysB S (⟨#[]⟩)).getD k ByteArray.empty)).isSome) = false := by simpa using hb10
         refine rw_gn (s := 34) rfl rfl hb10 rfl <| rw_gn (s := 34) rfl rfl hb10 rfl <| rw_gn (s := 34) rfl rfl hb10 rfl <| rw_gn (s := 34) rfl rfl hb10 rfl <| rw_gn (s := 34) rfl rfl hb10 rfl <| rw_gn (s := 34) rfl rfl hb10 rfl ?_
         refine rw_gn (s := 34) rfl rfl hb10 rfl <| rw_q rfl (ev_pick_tk rfl hb10 rfl) <| rw_q rfl (ev_move (v := (bl true)) rfl) <| rw_gn (s := 43) rfl rfl rfl rfl <| rw_gn (s := 43) rfl rfl rfl rfl <| rw_gn (s := 43) rfl rfl rfl rfl ?_
         refine rw_gn (s := 43) rfl rfl rfl rfl <| rw_gn (s := 43) rfl rfl rfl rfl <| rw_gn (s := 43) rfl rfl rfl rfl <| rw_gn (s := 43) rfl rfl rfl rfl <| rw_gn (s := 43) rfl rfl rfl rfl <| rw_q rfl (ev_pick_t rfl rfl) ?_
         refine rN ?_
         refine CW.abs (fun g => g 0 = (ptr bs 0) ∧ g 1 = vv ∧ g 5 = rq2 ∧ g 6 = (i64 (k : Int)) ∧ g 7 = (Value.string ((keysB S (⟨#[]⟩)).getD k ByteArray.empty)) ∧ g 8 = vq9 ∧ g 9 = (bl ((lkA S ((keysB S (⟨#[]⟩)).getD k ByteArray.empty)).isSome)) ∧ g 11 = (bl false) ∧ g 18 = (bl (((keysB S (⟨#[]⟩)).length : Int) != (vs.length : Int))) ∧ g 19 = rq2 ∧ g 20 = (i64 ((keysB S (⟨#[]⟩)).length : Int)) ∧ g 21 = (i64 (k : Int)) ∧ g 22 = (bl (decide ((k : Int) < ((keysB S (⟨#[]⟩)).length : Int)))) ∧ g 52 = (bl true) ∧ True) ⟨s0, s1, s5, rfl, rfl, rfl, rfl, s11, s18, s19, s20, s21, rfl, rfl, trivial⟩ ?_
         rintro fr11 ⟨s0, s1, s5, s6, s7, s8, s9, s11, s18, s19, s20, s21, s22, s52, _⟩
         refine cw_cond_t s52 (by decide) <| sR <| rw_q rfl (ev_assign (v := (bl false)) rfl) ?_
         refine rN (cw_ret ?_)
         refine kBlk_ret (kThen_ret (kBlk_ret ?_))
         refine fnPost_ret [(bl false)] ⟨rfl, trivial⟩ ?_
         have hm12 := Mem.drop Hsq9 _ hm8
         have hm13 := Mem.drop Hsq2 _ hm12
         exact ⟨false, rfl, hm13⟩
       · -- false
         have hb10n : ((lkA S ((keysB S (⟨#[]⟩)).getD k ByteArray.empty)).isSome) = true := by simpa using hb10
         refine rw_gyq (s := 34) rfl rfl hb10 rfl (ev_move (v := (Value.string ((keysB S (⟨#[]⟩)).getD k ByteArray.empty))) rfl) <| rw_gyq (s := 34) rfl rfl hb10 rfl (ev_move s1) <| rw_gyq (s := 34) rfl rfl hb10 rfl (ev_move (v := (i64 (k : Int))) rfl) <| rw_gyq (s := 34) rfl rfl hb10 rfl (ev_indexAddr_rk (i := (k : Int)) (RdK.ofRest hrv hm8) uT55 ti79 rfl rfl oM sL) <| rw_gyq (s := 34) rfl rfl hb10 rfl (ev_fa_rk (i := (k : Int)) (RdK.ofRest hrv hm8) sL uT79 rfl (by first | rfl | omega) ti9 rfl rfl) <| rw_gyq (s := 34) rfl rfl hb10 rfl (ev_load_rk1 (i := (k : Int)) (dflt := pair0) (u := (Value.string ((vs.getD k pair0).key))) (RdK.ofRest hrv hm8) sL uT9 rfl rfl (by decide) rfl) ?_
         refine rw_gyq (s := 34) rfl rfl hb10 rfl (ev_str_neq (s := ((keysB S (⟨#[]⟩)).getD k ByteArray.empty)) (t := (vs.getD k pair0).key) rfl rfl) <| rw_q rfl (ev_pick_fk rfl hb10 rfl) <| rM rfl rfl ?_
         rcases Bool.eq_false_or_eq_true (!decide (((keysB S (⟨#[]⟩)).getD k ByteArray.empty) = (vs.getD k pair0).key)) with hb14 | hb14
         · -- true
           have hb14n : decide (((keysB S (⟨#[]⟩)).getD k ByteArray.empty) = (vs.getD k pair0).key) = false := by simpa using hb14
           have hb14p := of_decide_eq_false hb14n
           refine rw_gn (s := 43) rfl rfl hb14 rfl <| rw_gn (s := 43) rfl rfl hb14 rfl <| rw_gn (s := 43) rfl rfl hb14 rfl <| rw_gn (s := 43) rfl rfl hb14 rfl <| rw_gn (s := 43) rfl rfl hb14 rfl <| rw_gn (s := 43) rfl rfl hb14 rfl ?_
           refine rw_gn (s := 43) rfl rfl hb14 rfl <| rw_gn (s := 43) rfl rfl hb14 rfl <| rw_q rfl (ev_pick_tk rfl hb14 rfl) <| rN ?_
           refine CW.abs (fun g => g 0 = (ptr bs 0) ∧ g 1 = vv ∧ g 5 = rq2 ∧ g 6 = (i64 (k : Int)) ∧ g 7 = (Value.string ((keysB S (⟨#[]⟩)).getD k ByteArray.empty)) ∧ g 8 = vq9 ∧ g 9 = (bl ((lkA S ((keysB S (⟨#[]⟩)).getD k ByteArray.empty)).isSome)) ∧ g 11 = (bl false) ∧ g 18 = (bl (((keysB S (⟨#[]⟩)).length : Int) != (vs.length : Int))) ∧ g 19 = rq2 ∧ g 20 = (i64 ((keysB S (⟨#[]⟩)).length : Int)) ∧ g 21 = (i64 (k : Int)) ∧ g 22 = (bl (decide ((k : Int) < ((keysB S (⟨#[]⟩)).length : Int)))) ∧ g 52 = (bl true) ∧ True) ⟨s0, s1, s5, rfl, rfl, rfl, rfl, s11, s18, s19, s20, s21, rfl, rfl, trivial⟩ ?_
           rintro fr15 ⟨s0, s1, s5, s6, s7, s8, s9, s11, s18, s19, s20, s21, s22, s52, _⟩
           refine cw_cond_t s52 (by decide) <| sR <| rw_q rfl (ev_assign (v := (bl false)) rfl) ?_
           refine rN (cw_ret ?_)
           refine kBlk_ret (kThen_ret (kBlk_ret ?_))
           refine fnPost_ret [(bl false)] ⟨rfl, trivial⟩ ?_
           have hm16 := Mem.drop Hsq9 _ hm8
           have hm17 := Mem.drop Hsq2 _ hm16
           exact ⟨false, rfl, hm17⟩
         · -- false
           have hb14n : decide (((keysB S (⟨#[]⟩)).getD k ByteArray.empty) = (vs.getD k pair0).key) = true := by simpa using hb14
           have hb14p := of_decide_eq_true hb14n
           refine rw_gyq (s := 43) rfl rfl hb14 rfl (ev_move (v := vq9) rfl) <| rw_gyq (s := 43) rfl rfl hb14 rfl (ev_move s1) <| rw_gyq (s := 43) rfl rfl hb14 rfl (ev_move (v := (i64 (k : Int))) rfl) <| rw_gyq (s := 43) rfl rfl hb14 rfl (ev_indexAddr_rk (i := (k : Int)) (RdK.ofRest hrv hm8) uT55 ti79 rfl rfl oM sL) <| rw_gyq (s := 43) rfl rfl hb14 rfl (ev_fa_rk (i := (k : Int)) (RdK.ofRest hrv hm8) sL uT79 rfl (by first | rfl | omega) ti23 rfl rfl) <| rw_gyq (s := 43) rfl rfl hb14 rfl (ev_load_rk1 (i := (k : Int)) (dflt := pair0) (u := (slv (vs.getD k pair0).val)) (RdK.ofRest hrv hm8) sL uT23 rfl rfl (by decide) rfl) ?_
           refine rw_gy (s := 43) rfl rfl hb14 rfl (opR_call Try.func36 bd36 nm36 (args2 rfl rfl) (c_same vq9 (slv (vs.getD k pair0).val) ((lkA S ((keysB S (⟨#[]⟩)).getD k ByteArray.empty)).getD []) ((vs.getD k pair0).val.2) _ (grq9.rd hm8) (Rd.ofRest (rdQ PairT.val hqv (k := k) sD) hm8) sL)) ?_
           rintro _ w18 ⟨rfl, _ew18⟩
           have hm18 := hm8.ext _ew18
           refine rw_gyq (s := 43) rfl rfl hb14 rfl (ev_not rfl) <| rw_q rfl (ev_pick_fk rfl hb14 rfl) <| rN ?_
           refine CW.abs (fun g => g 0 = (ptr bs 0) ∧ g 1 = vv ∧ g 5 = rq2 ∧ g 6 = (i64 (k : Int)) ∧ g 7 = (Value.string ((keysB S (⟨#[]⟩)).getD k ByteArray.empty)) ∧ g 8 = vq9 ∧ g 9 = (bl ((lkA S ((keysB S (⟨#[]⟩)).getD k ByteArray.empty)).isSome)) ∧ g 11 = (bl false) ∧ g 18 = (bl (((keysB S (⟨#[]⟩)).length : Int) != (vs.length : Int))) ∧ g 19 = rq2 ∧ g 20 = (i64 ((keysB S (⟨#[]⟩)).length : Int)) ∧ g 21 = (i64 (k : Int)) ∧ g 22 = (bl (decide ((k : Int) < ((keysB S (⟨#[]⟩)).length : Int)))) ∧ g 52 = (bl (!(((lkA S ((keysB S (⟨#[]⟩)).getD k ByteArray.empty)).getD []) == ((vs.getD k pair0).val.2)))) ∧ True) ⟨s0, s1, s5, rfl, rfl, rfl, rfl, s11, s18, s19, s20, s21, rfl, rfl, trivial⟩ ?_
           rintro fr20 ⟨s0, s1, s5, s6, s7, s8, s9, s11, s18, s19, s20, s21, s22, s52, _⟩
           refine cw_cond s52 (fun hc21 => ?_) (fun hc21 => ?_)
           · -- true
             have hc21n : (((lkA S ((keysB S (⟨#[]⟩)).getD k ByteArray.empty)).getD []) == ((vs.getD k pair0).val.2)) = false := by simpa using hc21
             have hc21p := ne_of_beq_false hc21n
             refine sR <| rw_q rfl (ev_assign (v := (bl false)) rfl) ?_
             refine rN (cw_ret ?_)
             refine kBlk_ret (kThen_ret (kBlk_ret ?_))
             refine fnPost_ret [(bl false)] ⟨rfl, trivial⟩ ?_
             have hm22 := Mem.drop Hsq9 _ hm18
             have hm23 := Mem.drop Hsq2 _ hm22
             exact ⟨false, rfl, hm23⟩
           · -- false
             have hc21n : (((lkA S ((keysB S (⟨#[]⟩)).getD k ByteArray.empty)).getD []) == ((vs.getD k pair0).val.2)) = true := by simpa using hc21
             have hc21p := eq_of_beq hc21n
             refine cw_skip (kBlk_normal (cw_region ?_))
             refine rw_q rfl (ev_i64_add (b := 1) s21 rfl oM oM) <| rw_q rfl (ev_move (v := (i64 ((k : Int) + 1))) rfl) <| rN ?_
             have hm24 := Mem.drop Hsq9 _ hm18
             exact ⟨⟨(k + 1), oM, s0, s1, s5, s11, s18, s19, s20, rfl, (by
               have hT := hm24
               try simp only [List.append_assoc, List.cons_append, List.nil_append, List.append_nil] at hT ⊢
               exact hT)⟩, meas (rfl) z21 oM oM⟩
     · -- false
       have hc7p := of_decide_eq_false hc7
       refine cw_exit ?_
       refine kThen_exit (kThen_exit (kBlk_hit ?_))
       refine sR <| rw_q rfl (ev_assign (v := (bl true)) rfl) ?_
       refine rN (cw_ret ?_)
       refine fnPost_ret [(bl true)] ⟨rfl, trivial⟩ ?_
       have hm25 := Mem.drop Hsq2 _ hm6
       exact ⟨true, rfl, hm25⟩


end Go.Proofs.Ytfbnhoolkajebaa
