/- What a journal keeps on a disk: plain law. Conditions: none beyond those that each theorem states. -/
import Derived.Test.YtfbnhoolkajebaaJo8
namespace Go.Proofs.Ytfbnhoolkajebaa
set_option linter.unusedVariables false
set_option linter.unusedSimpArgs false
/-! ### What a journal keeps on a disk -/
theorem place_a : ∀ k : Nat, k < 2048 → (BitVec.ofInt 64 (k : Int) ||| 32768#64).toNat < 65536 ∧ ((BitVec.ofInt 64 (k : Int) ||| 32768#64) &&& 32768#64 != 0#64) = true ∧ ((BitVec.ofInt 64 (k : Int) ||| 32768#64) &&& ~~~32768#64).toNat = k ∧
    (BitVec.ofInt 64 (k : Int)).toNat < 65536 ∧ (BitVec.ofInt 64 (k : Int) &&& 32768#64 != 0#64) = false ∧ (BitVec.ofInt 64 (k : Int) &&& ~~~32768#64).toNat = k := by decide +kernel
theorem place_b {n k : Nat} (h : k < 2048) : (placeF n k).toNat < 65536 ∧ (placeF n k &&& 32768#64 != 0#64) = decide (k + 1 = n) ∧ (placeF n k &&& ~~~32768#64).toNat = k := by
  obtain ⟨h1, h2, h3, h4, h5, h6⟩ := place_a k h
  unfold placeF
  by_cases e : k + 1 = n
  · rw [if_pos e, decide_eq_true e]; exact ⟨h1, h2, h3⟩
  · rw [if_neg e, decide_eq_false e]; exact ⟨h4, h5, h6⟩
theorem ofInt_nat {j : Nat} (h : j < 18446744073709551616) : (BitVec.ofInt 64 (j : Int)).toNat = j := by
  rw [BitVec.toNat_ofInt]; omega
section
variable {g r : BitVec 64} {b : List (BitVec 8)} {n k : Nat}
theorem blk_facts (hg : g.toNat < 4294967296) (hr : r.toNat < 4294967296) (hn : n = blocksN b.length) (hk : k < n) (h1 : n ≤ 2048) :
    gOf (blkOf g r n b k) = g ∧ rOf (blkOf g r n b k) = r ∧ pOf (blkOf g r n b k) = placeF n k ∧ (nOf (blkOf g r n b k)).toNat = (partB b k).length ∧ dataB (blkOf g r n b k) = partB b k ∧
    (((blkOf g r n b k).drop 0).take 10 == ((blkOf g r n b k).drop 54).take 10) = true := by
  have hp := partB_len b k
  have hm : (markB g r (placeF n k)).length = 10 := markB_len _ _ _
  have hno : (nOf (blkOf g r n b k)).toNat = (partB b k).length := by
    unfold nOf blkOf
    rw [raw_len hm, getputB2 (by rw [ofInt_nat oM]; omega), ofInt_nat oM]
  refine ⟨?_, ?_, ?_, hno, ?_, ?_⟩
  · unfold gOf blkOf; rw [raw_gen, getputB4 hg]
  · unfold rOf blkOf; rw [raw_rec, getputB4 hr]
  · unfold pOf blkOf; rw [raw_place, getputB2 (place_b oM).1]
  · unfold dataB; rw [hno]; unfold blkOf; exact raw_data hm rfl
  · unfold blkOf; rw [raw_mark hm, raw_end hm hp, List.take_of_length_le oM]; exact beq_self_eq_true _
theorem blk_last (hg : g.toNat < 4294967296) (hr : r.toNat < 4294967296) (hn : n = blocksN b.length) (hk : k < n) (h1 : n ≤ 2048) : lastP (blkOf g r n b k) = decide (k + 1 = n) := by
  have := (blk_facts hg hr hn hk h1).2.2.1
  unfold lastP; rw [this]; exact (place_b oM).2.1
theorem part_full (hn : n = blocksN b.length) (hk : k + 1 < n) : (partB b k).length = 42 := by
  have : 42 * (k + 1) ≤ b.length := by subst hn; unfold blocksN at hk; omega
  unfold partB; simp; omega
theorem blk_good (hg : g.toNat < 4294967296) (hg0 : g ≠ 0#64) (hr : r.toNat < 4294967296) (hn : n = blocksN b.length) (hk : k < n) (h1 : n ≤ 2048) : badB (blkOf g r n b k) g r k = false := by
  obtain ⟨f1, f2, f3, f4, _, f6⟩ := blk_facts hg hr hn hk h1
  have hp := partB_len b k
  have hl := blk_last hg hr hn hk h1
  have e0 : (g == 0#64) = false := by rw [beq_eq_false_iff_ne]; exact hg0
  have e1 : ((placeF n k &&& ~~~32768#64).toNat : Int) = (k : Int) := by rw [(place_b oM).2.2]
  have e2 : decide ((42 : Int) < (((partB b k).length : Nat) : Int)) = false := decide_eq_false oM
  unfold badB
  rw [f1, f2, f3, f4, f6, hl, e0, e1, e2]
  by_cases e : k + 1 = n
  · rw [decide_eq_true e]; simp
  · rw [decide_eq_false e]
    have := part_full hn (show k + 1 < n by omega)
    rw [this]; simp
theorem part_add : b.take (42 * k) ++ partB b k = b.take (42 * (k + 1)) := by
  unfold partB
  rw [show 42 * (k + 1) = 42 * k + 42 by omega, List.take_add]
end
section
variable {X : Int → List (BitVec 8)} {num g : BitVec 64} {pos sz : Int} {b : List (BitVec 8)} {n : Nat}
theorem genF_laid {g0 : BitVec 64} {y : List (BitVec 8)} (h0 : g0 = 0#64 ∨ g0 = g) (hy : gOf y = g) : genF g0 y = g := by
  unfold genF
  rcases h0 with rfl | rfl
  · simp [hy]
  · by_cases e : (g0 == 0#64) = true
    · rw [if_pos e]; exact hy
    · rw [if_neg e]
theorem rec_laid (hg : g.toNat < 4294967296) (hg0 : g ≠ 0#64) (hr : num.toNat < 4294967296) (hn : n = blocksN b.length) (h1 : n ≤ 2048) (hs : pos + (n : Int) ≤ sz) (hX : ∀ k : Nat, k < n → X (k : Int) = blkOf g num n b k) :
    ∀ (m i : Nat), i + m + 1 = n → ∀ g0 : BitVec 64, (g0 = 0#64 ∨ g0 = g) → recB X num pos ((sz - pos).toNat - i) i g0 (b.take (42 * i)) = ⟨b, g, pos + (n : Int), true⟩ := by
  intro m
  induction m with
  | zero =>
    intro i hi g0 h0
    obtain ⟨f1, f2, f3, f4, f5, _⟩ := blk_facts hg hr hn (show i < n by omega) h1
    have hgn : genF g0 (X (i : Int)) = g := genF_laid h0 (by rw [hX i oM]; exact f1)
    have hlast : lastP (X (i : Int)) = true := by rw [hX i oM, blk_last hg hr hn oM h1, decide_eq_true oM]
    have := rec_last (X := X) (num := num) (g := g0) (acc := b.take (42 * i)) (y := X (i : Int)) (r := recB X num pos ((sz - pos).toNat - i) i g0 (b.take (42 * i))) oM rfl (by rw [hgn, hX i oM]; exact blk_good hg hg0 hr hn oM h1) hlast rfl
    rw [this, hgn, hX i oM, f5, part_add]
    have e : b.take (42 * (i + 1)) = b := List.take_of_length_le (by subst hn; unfold blocksN at hi; omega)
    rw [e]; congr 1; omega
  | succ m ih =>
    intro i hi g0 h0
    obtain ⟨f1, f2, f3, f4, f5, _⟩ := blk_facts hg hr hn (show i < n by omega) h1
    have hgn : genF g0 (X (i : Int)) = g := genF_laid h0 (by rw [hX i oM]; exact f1)
    have hlast : lastP (X (i : Int)) = false := by rw [hX i oM, blk_last hg hr hn oM h1, decide_eq_false oM]
    have := rec_more (X := X) (num := num) (g := g0) (acc := b.take (42 * i)) (y := X (i : Int)) (r := recB X num pos ((sz - pos).toNat - i) i g0 (b.take (42 * i))) oM rfl (by rw [hgn, hX i oM]; exact blk_good hg hg0 hr hn oM h1) hlast rfl
    rw [hgn, hX i oM, f5, part_add] at this
    rw [← this]
    exact ih (i + 1) oM g (.inr rfl)
end
/-- Records are laid from a block on. -/
def LaidP (Ls : List (List (BitVec 8))) (fr : Nat) (g : BitVec 64) (L : List (List (BitVec 8))) : Prop :=
  ∀ j, j < L.length → ∀ k, k < blocksN (L.getD j []).length → Ls.getD (fr + roomB (L.take j) + k) [] = blkOf g (BitVec.ofInt 64 (j : Int)) (blocksN (L.getD j []).length) (L.getD j []) k
structure JI (Ls : List (List (BitVec 8))) (fr h : Nat) (g : BitVec 64) (L : List (List (BitVec 8))) : Prop where
  half : fr = 0 ∨ fr = h
  len : Ls.length / 2 = h
  small : h ≤ 2000
  room : roomB L ≤ h
  pos : 0 < L.length
  g1 : 1 ≤ g.toNat
  g2 : g.toNat < 4294967296
  laid : LaidP Ls fr g L
  all : ∀ x ∈ Ls, x.length = 64
  rest : ∀ p, p < Ls.length → ¬ (fr ≤ p ∧ p < fr + roomB L) → GB (g.toNat - 1) (Ls.getD p [])
section
variable {Ls : List (List (BitVec 8))} {fr h : Nat} {g : BitVec 64} {L : List (List (BitVec 8))}
theorem recs_le {j : Nat} (hj : j ≤ L.length) : j ≤ roomB L := Nat.le_trans (roomT_k j hj) (roomT_le j)
theorem readB_at {p : Nat} {i : Int} (hp : p < Ls.length) (hi : i = (p : Int)) : readB Ls [] i = Ls.getD p [] := by subst hi; exact readB_nil hp
theorem JI.ne0 (J : JI Ls fr h g L) : g ≠ 0#64 := by intro e; have := J.g1; rw [e] at this; simp at this
theorem JI.recAt (J : JI Ls fr h g L) {j : Nat} (hj : j < L.length) {g0 : BitVec 64} (h0 : g0 = 0#64 ∨ g0 = g) {m pos : Int} (hm : m = (j : Int)) (hpos : pos = (roomB (L.take j) : Int)) :
    recF Ls [] (fr : Int) (h : Int) g0 (BitVec.ofInt 64 m) pos = ⟨L.getD j [], g, (roomB (L.take (j + 1)) : Int), true⟩ := by
  subst hm hpos
  have hs := roomT_S hj
  have hl := roomT_le (L := L) (j + 1)
  have hr := J.room; have hh := J.half; have hln := J.len; have hsm := J.small
  have hb := blocksN_pos (L.getD j []).length
  have hjr := recs_le (L := L) (j := j) oM
  have := rec_laid (X := fun i => readB Ls [] ((fr : Int) + (roomB (L.take j) : Int) + i)) (num := BitVec.ofInt 64 (j : Int)) (g := g) (pos := (roomB (L.take j) : Int)) (sz := (h : Int)) (b := L.getD j []) (n := blocksN (L.getD j []).length)
    J.g2 J.ne0 (by rw [ofInt_nat oM]; omega) rfl oM oM
    (fun k hk => by rw [readB_at (p := fr + roomB (L.take j) + k) oM (by push_cast; omega)]; exact J.laid j hj k hk) (blocksN (L.getD j []).length - 1) 0 oM g0 h0
  have e0 : (L.getD j []).take (42 * 0) = [] := by simp
  rw [e0, Nat.sub_zero] at this
  unfold recF
  rw [this, hs]; congr 1
theorem JI.stop (J : JI Ls fr h g L) {m pos : Int} (hpos : pos = (roomB L : Int)) : recF Ls [] (fr : Int) (h : Int) g (BitVec.ofInt 64 m) pos = recN := by
  subst hpos
  have hr := J.room; have hh := J.half; have hln := J.len
  unfold recF
  by_cases e : roomB L = h
  · have : ((h : Int) - (roomB L : Int)).toNat = 0 := by omega
    rw [this]; rfl
  · have hb := J.rest (fr + roomB L) oM oM
    have hg1 := J.g1
    refine rec_bad (X := fun i => readB Ls [] ((fr : Int) + (roomB L : Int) + i)) (num := BitVec.ofInt 64 m) (g := g) (pos := (roomB L : Int)) (sz := (h : Int)) (k := 0) (acc := []) (y := Ls.getD (fr + roomB L) []) oM (by rw [readB_at (p := fr + roomB L) oM (by push_cast; omega)]) ?_ rfl
    have eg : genF g (Ls.getD (fr + roomB L) []) = g := by
      unfold genF; rw [if_neg (by rw [beq_iff_eq]; exact J.ne0)]
    rw [eg]
    have hne : (gOf (Ls.getD (fr + roomB L) []) != g) = true := by
      rw [bne_iff_ne]; intro e2
      have := hb.1
      unfold gOf at e2; rw [e2] at this; omega
    unfold badB; rw [hne]; simp
theorem JI.loop (J : JI Ls fr h g L) : ∀ (m j f : Nat), j + m = L.length → 0 < j → m < f →
    loopH (fun g n p => recF Ls [] (fr : Int) (h : Int) g n p) f ⟨g, L.take j, (roomB (L.take j) : Int)⟩ g (recF Ls [] (fr : Int) (h : Int) g (BitVec.ofInt 64 (j : Int)) (roomB (L.take j) : Int)) = ⟨g, L, (roomB L : Int)⟩ := by
  intro m
  induction m with
  | zero =>
    intro j f hj h0 hf
    have ej : L.take j = L := List.take_of_length_le oM
    rw [ej, J.stop rfl]
    exact (loopH_end (q := recN) rfl rfl).symm ▸ rfl
  | succ m ih =>
    intro j f hj h0 hf
    obtain ⟨f, rfl⟩ : ∃ f', f = f' + 1 := ⟨f - 1, by omega⟩
    rw [J.recAt oM (.inr rfl) rfl rfl]
    have := ih (j + 1) f oM oM oM
    rw [← this]
    have e1 : L.take j ++ [L.getD j []] = L.take (j + 1) := take_snoc oM
    have e2 : ((L.take j).length : Int) + 1 = ((j + 1 : Nat) : Int) := by simp; omega
    show (if _ then loopH _ f ⟨g, L.take j ++ [L.getD j []], _⟩ g (recF _ _ _ _ g (BitVec.ofInt 64 (((L.take j).length : Int) + 1)) _) else _) = _
    rw [if_pos rfl, e1, e2]
theorem JI.read (J : JI Ls fr h g L) : readH Ls [] (fr : Int) (h : Int) = ⟨g, L, (roomB L : Int)⟩ := by
  have hp := J.pos; have hr := J.room
  have hlr := room_len (L := L)
  unfold readH
  rw [J.recAt (j := 0) hp (.inl rfl) (m := 0) (pos := 0) rfl rfl]
  have := J.loop (L.length - 1) 1 ((h : Int).toNat) oM oM oM
  rw [← this]
  have e1 : L.take 1 = [L.getD 0 []] := getD_take1 hp
  show (if _ then loopH _ (h : Int).toNat ⟨g, [] ++ [L.getD 0 []], _⟩ g (recF _ _ _ _ g (BitVec.ofInt 64 ((([] : List (List (BitVec 8))).length : Int) + 1)) _) else _) = _
  rw [if_pos rfl, e1, List.nil_append]; rfl
theorem rec_of {X : Int → List (BitVec 8)} {num : BitVec 64} {pos : Int} : ∀ (f i : Nat) (g : BitVec 64) (acc : List (BitVec 8)), (recB X num pos f i g acc).ok = true → (recB X num pos f i g acc).of_ = genF g (X (i : Int))
  | 0, _, _, _, h => by cases h
  | f + 1, i, g, acc, h => by
    unfold recB at h ⊢
    by_cases hb : badB (X (i : Int)) (genF g (X (i : Int))) num i = true
    · rw [if_pos hb] at h; cases h
    · rw [if_neg hb] at h ⊢
      by_cases hl : lastP (X (i : Int)) = true
      · rw [if_pos hl]
      · rw [if_neg hl] at h ⊢
        rw [rec_of f (i + 1) _ _ h]
        have : (genF g (X (i : Int)) == 0#64) ≠ true := by
          intro e; apply hb; unfold badB; rw [e]; simp
        unfold genF at this ⊢
        generalize (if (g == 0#64) = true then gOf (X (i : Int)) else g) = z at this ⊢
        rw [if_neg this]
theorem loop_gen {Q : BitVec 64 → BitVec 64 → Int → RecT} : ∀ (f : Nat) (h : HalfT) (g : BitVec 64) (q : RecT), h.gen = g → (loopH Q f h g q).gen = g
  | 0, _, _, _, e => e
  | f + 1, h, g, q, e => by
    show (if _ then _ else _ : HalfT).gen = g
    split
    · exact loop_gen f _ g _ rfl
    · exact e
theorem half_gen {fr sz : Int} {ps : List WriteT} : (readH Ls ps fr sz).gen = 0#64 ∨ (readH Ls ps fr sz).gen = gOf (readB Ls ps fr) ∧ 0 < sz := by
  unfold readH
  by_cases hok : (recF Ls ps fr sz 0#64 (BitVec.ofInt 64 (0 : Int)) (0 : Int)).ok = true
  · right
    have hsz : 0 < sz := by
      unfold recF at hok
      by_cases e : (sz - 0).toNat = 0
      · rw [e] at hok; cases hok
      · omega
    have ho : (recF Ls ps fr sz 0#64 (BitVec.ofInt 64 (0 : Int)) (0 : Int)).of_ = gOf (readB Ls ps fr) := by
      unfold recF at hok ⊢
      rw [rec_of _ _ _ _ hok]
      show genF 0#64 (readB Ls ps (fr + 0 + ((0 : Nat) : Int))) = _
      have e : fr + 0 + ((0 : Nat) : Int) = fr := by simp
      rw [e]; rfl
    refine ⟨?_, hsz⟩
    show (if _ then _ else _ : HalfT).gen = _
    rw [if_pos hok, ← ho]
    exact loop_gen _ _ _ _ rfl
  · left
    show (if _ then _ else _ : HalfT).gen = _
    rw [if_neg hok]
theorem JI.okG (J : JI Ls fr h g L) : okG g.toNat Ls := by
  intro x hx
  refine ⟨J.all x hx, ?_⟩
  obtain ⟨p, hp, rfl⟩ := List.mem_iff_getElem.1 hx
  have e : Ls[p] = Ls.getD p [] := by simp [List.getD_eq_getElem?_getD, hp]
  rw [e]
  by_cases hin : fr ≤ p ∧ p < fr + roomB L
  · -- one of the records' blocks
    obtain ⟨j, hj, hj1, hj2⟩ : ∃ j, j < L.length ∧ roomB (L.take j) ≤ p - fr ∧ p - fr < roomB (L.take (j + 1)) := by
      have key : ∀ n, n ≤ L.length → p - fr < roomB (L.take n) → ∃ j, j < n ∧ roomB (L.take j) ≤ p - fr ∧ p - fr < roomB (L.take (j + 1)) := by
        intro n
        induction n with
        | zero => intro _ h0; have : roomB (L.take 0) = 0 := rfl; omega
        | succ n ih =>
          intro hn h0
          by_cases h1 : p - fr < roomB (L.take n)
          · obtain ⟨j, a, b, c⟩ := ih oM h1; exact ⟨j, by omega, b, c⟩
          · exact ⟨n, by omega, by omega, h0⟩
      obtain ⟨j, a, b, c⟩ := key L.length (Nat.le_refl _) (by rw [List.take_length]; omega)
      exact ⟨j, a, b, c⟩
    rw [roomT_S hj] at hj2
    have hb := J.laid j hj (p - fr - roomB (L.take j)) oM
    rw [show fr + roomB (L.take j) + (p - fr - roomB (L.take j)) = p by omega] at hb
    rw [hb]
    exact GB_blk (Nat.le_refl _) J.g2
  · exact GB_mono (J.rest p hp hin) oM
theorem JI.old (J : JI Ls fr h g L) : oldB Ls [] = ((fr : Int), L) := by
  have hp := J.pos; have hr := J.room; have hlr := room_len (L := L); have hln := J.len; have hg1 := J.g1
  have hI : (Ls.length : Int) / 2 = (h : Int) := by omega
  have hrd := J.read
  have hg0 : (g == 0#64) = false := by rw [beq_eq_false_iff_ne]; exact J.ne0
  have hoth : ∀ fo : Nat, fo + h ≤ Ls.length → (fo = h ∧ fr = 0 ∨ fo = 0 ∧ fr = h) → (readH Ls [] (fo : Int) (h : Int)).gen.toNat ≤ g.toNat - 1 := by
    intro fo h1 h2
    rcases half_gen (Ls := Ls) (ps := []) (fr := (fo : Int)) (sz := (h : Int)) with e | ⟨e, hh⟩
    · rw [e]; exact Nat.zero_le _
    · rw [e, readB_nil oM]
      exact (J.rest fo oM oM).1
  unfold oldB
  rw [hI]
  rcases J.half with rfl | rfl
  · have := hoth h oM (.inl ⟨rfl, rfl⟩)
    have e0 : ((0 : Nat) : Int) = 0 := rfl
    rw [e0] at hrd
    simp only [hrd]
    rw [if_neg oM, if_neg (by rw [hg0]; simp)]; rfl
  · have := hoth 0 oM (.inr ⟨rfl, rfl⟩)
    have e0 : ((0 : Nat) : Int) = 0 := rfl
    rw [e0] at this
    simp only [hrd]
    rw [if_pos oM, if_neg (by rw [hg0]; simp)]
theorem most_ge {ps : List WriteT} : ∀ n k : Nat, k < n → (getB (((readB Ls ps (k : Int)).drop 0).take 4)).toNat ≤ (mostK Ls ps n).toNat
  | 0, _, h => by omega
  | n + 1, k, h => by
    rw [← mostK_S, maxU_nat, maxU_nat]
    by_cases e : k = n
    · subst e; omega
    · have := most_ge (ps := ps) n k oM; omega
theorem JI.new (J : JI Ls fr h g L) (hg : g.toNat < 4294967295) : (newB Ls []).toNat = g.toNat + 1 ∧ (newB Ls [] == 0#64) = false := by
  have hp := J.pos; have hr := J.room; have hlr := room_len (L := L); have hln := J.len; have hh := J.half
  have hle := most_le J.okG Ls.length (Nat.le_refl _)
  have hb := blocksN_pos (L.getD 0 []).length
  have h0 := J.laid 0 hp 0 oM
  have e0 : roomB (L.take 0) = 0 := rfl
  rw [e0] at h0
  have hge := most_ge (Ls := Ls) (ps := []) Ls.length fr oM
  rw [readB_nil oM] at hge
  rw [show fr + 0 + 0 = fr by omega] at h0
  rw [h0, (blk_gens J.g2).1] at hge
  have em : (mostK Ls [] Ls.length).toNat = g.toNat := by omega
  unfold newB
  rw [if_neg (by show ¬ 4294967295 ≤ _; omega)]
  have e : (mostK Ls [] Ls.length + 1#64).toNat = g.toNat + 1 := by rw [BitVec.toNat_add, em]; show ( _ + 1) % _ = _; omega
  refine ⟨e, ?_⟩
  rw [beq_eq_false_iff_ne]; intro h0; rw [h0] at e; simp at e
end
/-! ### Writes that last -/
section
variable {ls : List (List (BitVec 8))} {ps : List WriteT} {g r : BitVec 64} {b : List (BitVec 8)} {L : List (List (BitVec 8))}
theorem syncF_len : (syncF ls ps).length = ls.length := by
  unfold syncF
  induction ps generalizing ls with
  | nil => rfl
  | cons w ps ih => rw [List.foldl_cons, ih, List.length_set]
theorem syncF_app (qs : List WriteT) : syncF ls (ps ++ qs) = syncF (syncF ls ps) qs := by unfold syncF; rw [List.foldl_append]
theorem getD_set' {α : Type} {l : List α} {i j : Nat} {a d : α} (h : i < l.length) : (l.set i a).getD j d = if j = i then a else l.getD j d := by
  rw [List.getD_eq_getElem?_getD, List.getD_eq_getElem?_getD, List.getElem?_set]
  by_cases e : i = j
  · subst e; simp [h]
  · rw [if_neg e, if_neg (fun h => e h.symm)]
theorem sync_write {pos : Nat} {pI : Int} (hp : pI = (pos : Int)) : ∀ k, pos + k ≤ ls.length → ∀ j, (syncF ls (writeK ls ps pI g r b k)).getD j [] = if pos ≤ j ∧ j < pos + k then blkOf g r (blocksN b.length) b (j - pos) else (syncF ls ps).getD j []
  | 0, _, j => by rw [if_neg oM]; rfl
  | k + 1, h, j => by
    have ih := sync_write hp k oM j
    have hin : inB ls (pI + (k : Int)) = true := inB_of oM oM
    have e : writeK ls ps pI g r b (k + 1) = writeK ls ps pI g r b k ++ [⟨pI + (k : Int), blkOf g r (blocksN b.length) b k⟩] := by show pushB _ _ _ _ = _; unfold pushB; rw [if_pos hin]
    have e2 : syncF ls (writeK ls ps pI g r b (k + 1)) = (syncF ls (writeK ls ps pI g r b k)).set (pI + (k : Int)).toNat (blkOf g r (blocksN b.length) b k) := by rw [e, syncF_app]; rfl
    have e3 : (pI + (k : Int)).toNat = pos + k := by omega
    rw [e2, e3, getD_set' (by rw [syncF_len]; omega)]
    by_cases hj : j = pos + k
    · rw [if_pos hj, if_pos oM, hj, Nat.add_sub_cancel_left]
    · rw [if_neg hj, ih]
      by_cases c : pos ≤ j ∧ j < pos + k
      · rw [if_pos c, if_pos oM]
      · rw [if_neg c, if_neg oM]
theorem roomT_mono {i j : Nat} (h : i ≤ j) : roomB (L.take i) ≤ roomB (L.take j) := by
  have := roomT_le (L := L.take j) i
  rw [List.take_take, Nat.min_eq_left h] at this; exact this
theorem sync_lay {fr : Nat} {fI : Int} (hf : fI = (fr : Int)) (hroom : fr + roomB L ≤ ls.length) : ∀ k, k < L.length →
    (∀ p, ¬ (fr + roomB (L.take 1) ≤ p ∧ p < fr + roomB (L.take (k + 1))) → (syncF ls (layK ls [] fI g L k)).getD p [] = ls.getD p []) ∧
    (∀ j, 1 ≤ j → j ≤ k → ∀ i, i < blocksN (L.getD j []).length → (syncF ls (layK ls [] fI g L k)).getD (fr + roomB (L.take j) + i) [] = blkOf g (BitVec.ofInt 64 (j : Int)) (blocksN (L.getD j []).length) (L.getD j []) i)
  | 0, _ => ⟨fun p _ => rfl, fun j h1 h2 => by omega⟩
  | k + 1, h => by
    obtain ⟨ih1, ih2⟩ := sync_lay hf hroom k oM
    have hs := roomT_S h
    have hl := roomT_le (L := L) (k + 1 + 1)
    have hm1 := roomT_mono (L := L) (show 1 ≤ k + 1 by omega)
    have hw := sync_write (ls := ls) (ps := layK ls [] fI g L k) (g := g) (r := BitVec.ofInt 64 ((k : Int) + 1)) (b := L.getD (k + 1) []) (pos := fr + roomB (L.take (k + 1))) (pI := fI + (roomB (L.take (k + 1)) : Int)) (by subst hf; push_cast; rfl) (blocksN (L.getD (k + 1) []).length) oM
    have e : layK ls [] fI g L (k + 1) = writeK ls (layK ls [] fI g L k) (fI + (roomB (L.take (k + 1)) : Int)) g (BitVec.ofInt 64 ((k : Int) + 1)) (L.getD (k + 1) []) (blocksN (L.getD (k + 1) []).length) := rfl
    rw [e]
    refine ⟨fun p hp => ?_, fun j h1 h2 i hi => ?_⟩
    · rw [hw p, if_neg oM]; exact ih1 p oM
    · rw [hw]
      by_cases hj : j = k + 1
      · subst hj
        rw [if_pos oM, Nat.add_sub_cancel_left]
        have : ((k + 1 : Nat) : Int) = (k : Int) + 1 := by omega
        rw [this]
      · have hs2 := roomT_S (L := L) (k := j) oM
        have hm2 := roomT_mono (L := L) (show j + 1 ≤ k + 1 by omega)
        rw [if_neg oM]
        exact ih2 j h1 oM i hi
theorem turn_JI {fr h G : Nat} {fI : Int} (hG : okG G ls) (hg : g.toNat = G + 1) (hg2 : g.toNat < 4294967296) (hh : fr = 0 ∨ fr = h) (hlen : ls.length / 2 = h) (hsm : h ≤ 2000) (hpos : 0 < L.length) (hroom : roomB L ≤ h) (hf : fI = (fr : Int)) :
    JI (crashB (turnL ls [] fI g L) (turnP ls [] fI g L) [1#8]) fr h g L := by
  have hT := okG_turn (ps := []) (fr := fI) (g := g) (L := L) (okG_mono hG (show G ≤ g.toNat by omega)) okV_nil (Nat.le_refl _) hg2
  have hls : ∀ x ∈ ls, x.length = 64 := fun x hx => (hG x hx).1
  have hlay : ∀ w ∈ layK ls [] fI g L (L.length - 1), w.b.length = 64 := fun w hw => (okV_lay (G := g.toNat) okV_nil (Nat.le_refl _) hg2 _ w hw).1
  have hFe := sync_eq (ls := turnL ls [] fI g L) (ps := turnP ls [] fI g L) (fun x hx => (hT.1 x hx).1) (fun w hw => (hT.2 w hw).1)
  have hlr := roomT_S (L := L) (k := 0) hpos
  have hr0 : roomB (L.take 0) = 0 := rfl
  have hrl := roomT_le (L := L) 1
  have h01 : L.take (0 + 1) = L.take 1 := rfl
  rw [h01] at hlr
  have key : ∀ j, (crashB (turnL ls [] fI g L) (turnP ls [] fI g L) [1#8]).getD j [] = if fr ≤ j ∧ j < fr + blocksN (L.getD 0 []).length then blkOf g (BitVec.ofInt 64 0) (blocksN (L.getD 0 []).length) (L.getD 0 []) (j - fr) else (syncF ls (layK ls [] fI g L (L.length - 1))).getD j [] := by
    intro j
    rw [hFe]
    by_cases e : (1 : Int) < (L.length : Int)
    · have e1 : turnL ls [] fI g L = syncF ls (layK ls [] fI g L (L.length - 1)) := by unfold turnL; rw [if_pos e]; exact sync_eq hls hlay
      have e2 : turnP ls [] fI g L = writeK (turnL ls [] fI g L) [] (fI + 0) g (BitVec.ofInt 64 0) (L.getD 0 []) (blocksN (L.getD 0 []).length) := by unfold turnP; rw [if_pos e]
      rw [e2, sync_write (pos := fr) oM _ (by rw [turnL_len]; omega), ← e1]; rfl
    · have e1 : turnL ls [] fI g L = ls := by unfold turnL; rw [if_neg e]
      have e2 : turnP ls [] fI g L = writeK ls (layK ls [] fI g L (L.length - 1)) (fI + 0) g (BitVec.ofInt 64 0) (L.getD 0 []) (blocksN (L.getD 0 []).length) := by unfold turnP; rw [if_neg e, e1]
      rw [e2, e1, sync_write (pos := fr) oM _ oM]
  obtain ⟨hL1, hL2⟩ := sync_lay (ls := ls) (g := g) (L := L) hf oM (L.length - 1) oM
  have hfull : L.take (L.length - 1 + 1) = L := List.take_of_length_le oM
  rw [hfull] at hL1
  refine ⟨hh, by rw [crashB_len', turnL_len]; exact hlen, hsm, hroom, hpos, by omega, hg2, ?_, fun x hx => (okG_sync hT.1 hT.2 x hx).1, ?_⟩
  · intro j hj k hk
    rw [key]
    by_cases h0 : j = 0
    · subst h0
      rw [hr0, if_pos oM, show fr + 0 + k - fr = k by omega]; rfl
    · have := roomT_mono (L := L) (show 1 ≤ j by omega)
      rw [if_neg oM]
      exact hL2 j oM oM k hk
  · intro p hp hn
    rw [crashB_len', turnL_len] at hp
    rw [key, if_neg oM, hL1 p oM, hg, Nat.add_sub_cancel]
    exact (hG _ (getD_mem hp)).2
theorem append_JI {fr h : Nat} {pI m : Int} (J : JI ls fr h g L) (hfit : blocksN b.length ≤ h - roomB L) (hp : pI = ((fr + roomB L : Nat) : Int)) (hm : m = (L.length : Int)) : JI (crashB ls (writeK ls [] pI g (BitVec.ofInt 64 m) b (blocksN b.length)) [1#8]) fr h g (L ++ [b]) := by
  have hr := J.room; have hh := J.half; have hln := J.len
  have hb := blocksN_pos b.length
  have hV := okV_write (ls := ls) (ps := []) (pos := pI) (g := g) (r := BitVec.ofInt 64 m) (b := b) (G := g.toNat) okV_nil (Nat.le_refl _) J.g2 (blocksN b.length)
  have hFe := sync_eq (ls := ls) J.all (fun w hw => (hV w hw).1)
  have key : ∀ j, (crashB ls (writeK ls [] pI g (BitVec.ofInt 64 m) b (blocksN b.length)) [1#8]).getD j [] = if fr + roomB L ≤ j ∧ j < fr + roomB L + blocksN b.length then blkOf g (BitVec.ofInt 64 m) (blocksN b.length) b (j - (fr + roomB L)) else ls.getD j [] := by
    intro j
    rw [hFe, sync_write (pos := fr + roomB L) hp _ oM]; rfl
  have hroom := room_snoc L b
  refine ⟨hh, by rw [crashB_len']; exact hln, J.small, by omega, by simp, J.g1, J.g2, ?_, fun x hx => (okG_sync J.okG hV x hx).1, ?_⟩
  · intro j hj k hk
    rw [key]
    rw [List.length_append, List.length_singleton] at hj
    by_cases hjl : j < L.length
    · have e1 : (L ++ [b]).getD j [] = L.getD j [] := by simp [List.getD_eq_getElem?_getD, List.getElem?_append, hjl]
      have e2 : (L ++ [b]).take j = L.take j := List.take_append_of_le_length oM
      rw [e1] at hk ⊢
      rw [e2]
      have hs := roomT_S hjl; have hl := roomT_le (L := L) (j + 1)
      rw [if_neg oM]
      exact J.laid j hjl k hk
    · obtain rfl : j = L.length := by omega
      have e1 : (L ++ [b]).getD L.length [] = b := by simp [List.getD_eq_getElem?_getD]
      have e2 : (L ++ [b]).take L.length = L := List.take_left' rfl
      rw [e1] at hk ⊢
      rw [e2, if_pos oM, Nat.add_sub_cancel_left, hm]
  · intro p hp' hn
    rw [crashB_len'] at hp'
    rw [key, if_neg oM]
    exact J.rest p hp' oM
theorem restart_JI {fr h : Nat} {fI : Int} (J : JI ls fr h g L) (hg : g.toNat < 4294967294) (hb : blocksN b.length ≤ h) (hf : fI = ((h - fr : Nat) : Int)) : JI (crashB (turnL ls [] fI (newB ls []) [b]) (turnP ls [] fI (newB ls []) [b]) [1#8]) (h - fr) h (newB ls []) [b] := by
  obtain ⟨h1, _⟩ := J.new oM
  have hh := J.half
  exact turn_JI J.okG h1 oM oM J.len J.small (by simp) (by rw [room_1]; exact hb) hf
end
theorem blank_JI {n : Nat} (h4 : 4 ≤ n) (hn : n ≤ 4000) : JI (openD (blank n) []) 0 (n / 2) (newB (blank n) []) [[]] ∧ (newB (blank n) []).toNat = 1 := by
  have hm := most_le (blank_G n) (blank n).length (Nat.le_refl _)
  have em : mostK (blank n) [] (blank n).length = 0#64 := by apply BitVec.eq_of_toNat_eq; simp only [BitVec.toNat_ofNat, Nat.zero_mod]; omega
  have hnew : (newB (blank n) []).toNat = 1 := by unfold newB; rw [em, if_neg (by decide)]; rfl
  refine ⟨?_, hnew⟩
  unfold openD
  rw [blank_old]
  exact turn_JI (blank_G n) (by rw [hnew]) (by rw [hnew]; decide) (.inl rfl) (by simp) oM (by simp) (by rw [room_nil]; omega) (by simp)


end Go.Proofs.Ytfbnhoolkajebaa
