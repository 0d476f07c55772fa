/- Generations on a disk: plain law. Conditions: none beyond those that each theorem states. -/
import Derived.Test.YtfbnhoolkajebaaJo6
namespace Go.Proofs.Ytfbnhoolkajebaa
section
set_option linter.unusedVariables false
set_option linter.unusedSimpArgs false
attribute [local irreducible] crashB crashK pushB readB inB errB cutN seenW
attribute [local irreducible] markB putB getB getK partB placeF blkOf rawB writeK blocksN
attribute [local irreducible] mostK newB roomB
attribute [local irreducible] recB recF recN genF badB lastP dataB gOf rOf pOf nOf loopH readH
attribute [local irreducible] okP layK turnL turnP oldB
attribute [local irreducible] openD
end --m
section
set_option linter.unusedVariables false
set_option linter.unusedSimpArgs false
/-! ### Numbers of bytes, and the generations on a disk -/
def natB (l : List (BitVec 8)) : Nat := l.foldl (fun n c => n * 256 + c.toNat) 0
theorem natB_snoc (l : List (BitVec 8)) (c : BitVec 8) : natB (l ++ [c]) = natB l * 256 + c.toNat := by unfold natB; rw [List.foldl_append]; rfl
theorem shl_or {a : BitVec 64} {c : BitVec 8} (h : a.toNat < 72057594037927936) : ((a <<< 8) ||| BitVec.setWidth 64 c).toNat = a.toNat * 256 + c.toNat := by
  have hc := c.isLt
  rw [BitVec.toNat_or, BitVec.toNat_shiftLeft, BitVec.toNat_setWidth, Nat.mod_eq_of_lt (a := c.toNat) oM]
  have e : a.toNat <<< 8 % 2 ^ 64 = a.toNat <<< 8 := by rw [Nat.shiftLeft_eq]; omega
  rw [e, ← Nat.shiftLeft_add_eq_or_of_lt (by omega : c.toNat < 2 ^ 8), Nat.shiftLeft_eq]
theorem rev_ind {α : Type} {P : List α → Prop} (h0 : P []) (hs : ∀ l a, P l → P (l ++ [a])) : ∀ l, P l := by
  have : ∀ n (l : List α), l.length = n → P l := by
    intro n
    induction n with
    | zero => intro l h; rw [List.length_eq_zero_iff] at h; rw [h]; exact h0
    | succ n ih =>
      intro l h
      have hne : l ≠ [] := by intro e; rw [e] at h; simp at h
      rw [← List.dropLast_concat_getLast hne]
      exact hs _ _ (ih _ (by simp; omega))
  exact fun l => this _ l rfl
theorem getB_nat : ∀ l : List (BitVec 8), l.length ≤ 7 → (getB l).toNat = natB l ∧ natB l < 256 ^ l.length := by
  refine rev_ind (fun _ => ⟨rfl, by decide⟩) ?_
  intro l a ih h
  rw [List.length_append, List.length_singleton] at h
  obtain ⟨h1, h2⟩ := ih oM
  have hp : 256 ^ l.length ≤ 256 ^ 6 := Nat.pow_le_pow_right (by decide) oM
  have ha := a.isLt
  rw [getB_snoc, natB_snoc, shl_or (by rw [h1]; omega), h1, List.length_append, List.length_singleton, Nat.pow_succ]
  refine ⟨rfl, ?_⟩
  have := Nat.mul_le_mul_right 256 h2
  omega
theorem putB4_nat (v : BitVec 64) : natB (putB v 4) = v.toNat % 4294967296 := by
  have e : natB (putB v 4) = (((0 * 256 + (BitVec.setWidth 8 (v >>> 24)).toNat) * 256 + (BitVec.setWidth 8 (v >>> 16)).toNat) * 256 + (BitVec.setWidth 8 (v >>> 8)).toNat) * 256 + (BitVec.setWidth 8 (v >>> 0)).toNat := rfl
  rw [e]
  simp only [BitVec.toNat_setWidth, BitVec.toNat_ushiftRight, Nat.shiftRight_eq_div_pow]
  omega
theorem putB2_nat (v : BitVec 64) : natB (putB v 2) = v.toNat % 65536 := by
  have e : natB (putB v 2) = (0 * 256 + (BitVec.setWidth 8 (v >>> 8)).toNat) * 256 + (BitVec.setWidth 8 (v >>> 0)).toNat := rfl
  rw [e]
  simp only [BitVec.toNat_setWidth, BitVec.toNat_ushiftRight, Nat.shiftRight_eq_div_pow]
  omega
theorem getputB4 {v : BitVec 64} (h : v.toNat < 4294967296) : getB (putB v 4) = v := by
  apply BitVec.eq_of_toNat_eq
  rw [(getB_nat _ (by rw [putB_len]; omega)).1, putB4_nat, Nat.mod_eq_of_lt h]
theorem getputB2 {v : BitVec 64} (h : v.toNat < 65536) : getB (putB v 2) = v := by
  apply BitVec.eq_of_toNat_eq
  rw [(getB_nat _ (by rw [putB_len]; omega)).1, putB2_nat, Nat.mod_eq_of_lt h]
theorem drop_take {α : Type} {a b c : List α} {n m : Nat} (h1 : a.length = n) (h2 : b.length = m) : ((a ++ (b ++ c)).drop n).take m = b := by
  rw [List.drop_left' h1, List.take_left' h2]
section
variable {g r p : BitVec 64} {m part : List (BitVec 8)}
theorem raw_gen : ((rawB (markB g r p) part).drop 0).take 4 = putB g 4 := by
  have e : rawB (markB g r p) part = [] ++ (putB g 4 ++ ((putB r 4 ++ putB p 2) ++ (putB (BitVec.ofInt 64 (part.length : Int)) 2 ++ (part ++ (List.replicate (42 - part.length) 0 ++ markB g r p))))) := by unfold rawB; rw [markB]; simp only [List.append_assoc, List.nil_append]
  rw [e]; exact drop_take rfl (putB_len _ _)
theorem raw_rec : ((rawB (markB g r p) part).drop 4).take 4 = putB r 4 := by
  have e : rawB (markB g r p) part = putB g 4 ++ (putB r 4 ++ (putB p 2 ++ (putB (BitVec.ofInt 64 (part.length : Int)) 2 ++ (part ++ (List.replicate (42 - part.length) 0 ++ markB g r p))))) := by unfold rawB; rw [markB]; simp only [List.append_assoc]
  rw [e]; exact drop_take (putB_len _ _) (putB_len _ _)
theorem raw_place : ((rawB (markB g r p) part).drop 8).take 2 = putB p 2 := by
  have e : rawB (markB g r p) part = (putB g 4 ++ putB r 4) ++ (putB p 2 ++ (putB (BitVec.ofInt 64 (part.length : Int)) 2 ++ (part ++ (List.replicate (42 - part.length) 0 ++ markB g r p)))) := by unfold rawB; rw [markB]; simp only [List.append_assoc]
  rw [e]; exact drop_take (by rw [List.length_append, putB_len, putB_len]) (putB_len _ _)
theorem raw_mark (hm : m.length = 10) : ((rawB m part).drop 0).take 10 = m := by
  have e : rawB m part = [] ++ (m ++ (putB (BitVec.ofInt 64 (part.length : Int)) 2 ++ (part ++ (List.replicate (42 - part.length) 0 ++ m)))) := rfl
  rw [e]; exact drop_take rfl hm
theorem raw_len (hm : m.length = 10) : ((rawB m part).drop 10).take 2 = putB (BitVec.ofInt 64 (part.length : Int)) 2 := by
  unfold rawB; exact drop_take hm (putB_len _ _)
theorem raw_data (hm : m.length = 10) {n : Nat} (hn : n = part.length) : ((rawB m part).drop 12).take n = part := by
  have e : rawB m part = (m ++ putB (BitVec.ofInt 64 (part.length : Int)) 2) ++ (part ++ (List.replicate (42 - part.length) 0 ++ m)) := by unfold rawB; simp only [List.append_assoc]
  rw [e]; exact drop_take (by rw [List.length_append, hm, putB_len]) hn.symm
theorem raw_front (hm : m.length = 10) (hp : part.length ≤ 42) : (m ++ (putB (BitVec.ofInt 64 (part.length : Int)) 2 ++ (part ++ List.replicate (42 - part.length) (0 : BitVec 8)))).length = 54 := by
  simp [hm, putB_len]; omega
theorem raw_end (hm : m.length = 10) (hp : part.length ≤ 42) : (rawB m part).drop 54 = m := by
  have e : rawB m part = (m ++ (putB (BitVec.ofInt 64 (part.length : Int)) 2 ++ (part ++ List.replicate (42 - part.length) 0))) ++ m := by unfold rawB; simp only [List.append_assoc]
  rw [e]; exact List.drop_left' (raw_front hm hp)
end
/-- Both numbers of a generation are this one at most. -/
def GB (G : Nat) (x : List (BitVec 8)) : Prop := (getB ((x.drop 0).take 4)).toNat ≤ G ∧ (getB ((x.drop 54).take 4)).toNat ≤ G
def okG (G : Nat) (ls : List (List (BitVec 8))) : Prop := ∀ x ∈ ls, x.length = 64 ∧ GB G x
def okV (G : Nat) (ps : List WriteT) : Prop := ∀ w ∈ ps, w.b.length = 64 ∧ GB G w.b
theorem blk_gens {g r : BitVec 64} {n : Nat} {b : List (BitVec 8)} {k : Nat} (h : g.toNat < 4294967296) : getB (((blkOf g r n b k).drop 0).take 4) = g ∧ getB (((blkOf g r n b k).drop 54).take 4) = g := by
  unfold blkOf
  rw [raw_gen, raw_end (markB_len _ _ _) (partB_len _ _), markB, List.take_left' (putB_len _ _)]
  exact ⟨getputB4 h, getputB4 h⟩
theorem GB_blk {g r : BitVec 64} {n : Nat} {b : List (BitVec 8)} {k G : Nat} (h : g.toNat ≤ G) (hG : G < 4294967296) : GB G (blkOf g r n b k) := by
  have := blk_gens (r := r) (n := n) (b := b) (k := k) (show g.toNat < 4294967296 by omega)
  unfold GB; rw [this.1, this.2]; exact ⟨h, h⟩
theorem GB_mono {G G' : Nat} {x : List (BitVec 8)} (h : GB G x) (hG : G ≤ G') : GB G' x := ⟨Nat.le_trans h.1 hG, Nat.le_trans h.2 hG⟩
theorem okG_mono {G G' : Nat} {ls : List (List (BitVec 8))} (h : okG G ls) (hG : G ≤ G') : okG G' ls := fun x hx => ⟨(h x hx).1, GB_mono (h x hx).2 hG⟩
section
variable {ls : List (List (BitVec 8))} {ps : List WriteT} {pos fr : Int} {g r : BitVec 64} {b : List (BitVec 8)} {L : List (List (BitVec 8))} {G : Nat}
theorem okV_nil : okV G [] := fun w hw => by cases hw
theorem okV_write (hp : okV G ps) (h : g.toNat ≤ G) (hG : G < 4294967296) : ∀ k, okV G (writeK ls ps pos g r b k)
  | 0 => hp
  | k + 1 => by
    have ih := okV_write hp h hG k
    intro w hw
    have hw : w ∈ pushB ls (writeK ls ps pos g r b k) (pos + (k : Int)) (blkOf g r (blocksN b.length) b k) := hw
    unfold pushB at hw
    split at hw
    · rcases List.mem_append.1 hw with hw | hw
      · exact ih w hw
      · obtain rfl := List.mem_singleton.1 hw
        exact ⟨blkOf_len, GB_blk h hG⟩
    · exact ih w hw
theorem okV_lay (hp : okV G ps) (h : g.toNat ≤ G) (hG : G < 4294967296) : ∀ k, okV G (layK ls ps fr g L k)
  | 0 => hp
  | k + 1 => okV_write (okV_lay hp h hG k) h hG _
/-- A sync lets each write stand. -/
def syncF (ls : List (List (BitVec 8))) (ps : List WriteT) : List (List (BitVec 8)) := ps.foldl (fun l w => l.set w.at_.toNat w.b) ls
theorem sync_eq (hl : ∀ x ∈ ls, x.length = 64) (hp : ∀ w ∈ ps, w.b.length = 64) : crashB ls ps [1#8] = syncF ls ps := by
  have key : ∀ k, k ≤ ps.length → crashK ls ps [1#8] k = syncF ls (ps.take k) ∧ ∀ x ∈ syncF ls (ps.take k), x.length = 64 := by
    intro k
    induction k with
    | zero => intro _; exact ⟨rfl, by simpa [syncF] using hl⟩
    | succ k ih =>
      intro hk
      obtain ⟨h1, h2⟩ := ih oM
      have hw : (ps.getD k write0).b.length = 64 := hp _ (getD_mem oM)
      have et : ps.take (k + 1) = ps.take k ++ [ps.getD k write0] := (take_snoc oM).symm
      have es : syncF ls (ps.take (k + 1)) = (syncF ls (ps.take k)).set (ps.getD k write0).at_.toNat (ps.getD k write0).b := by rw [et]; unfold syncF; rw [List.foldl_append]; rfl
      have ec : crashK ls ps [1#8] (k + 1) = putW (crashK ls ps [1#8] k) (ps.getD k write0) 64 := by
        show putW _ _ (cutN ([1#8].getD (k % 1) 0)) = _
        rw [Nat.mod_one]; rfl
      rw [es, ec, h1]
      unfold putW
      refine ⟨?_, ?_⟩
      · by_cases hi : (ps.getD k write0).at_.toNat < (syncF ls (ps.take k)).length
        · have : ((syncF ls (ps.take k)).getD (ps.getD k write0).at_.toNat []).length = 64 := h2 _ (getD_mem hi)
          have e1 : (ps.getD k write0).b.take 64 = (ps.getD k write0).b := List.take_of_length_le oM
          rw [e1, List.drop_of_length_le (by omega : ((syncF ls (ps.take k)).getD (ps.getD k write0).at_.toNat []).length ≤ 64), List.append_nil]
        · rw [List.set_eq_of_length_le oM, List.set_eq_of_length_le oM]
      · intro x hx
        rcases List.mem_or_eq_of_mem_set hx with hx | hx
        · exact h2 x hx
        · rw [hx]; exact hw
  have := (key ps.length (Nat.le_refl _)).1
  rw [List.take_length] at this
  exact this
theorem okG_sync (h : okG G ls) (hp : okV G ps) : okG G (crashB ls ps [1#8]) := by
  rw [sync_eq (fun x hx => (h x hx).1) (fun w hw => (hp w hw).1)]
  unfold syncF
  induction ps generalizing ls with
  | nil => exact h
  | cons w ps ih =>
    refine ih (ls := ls.set w.at_.toNat w.b) ?_ (fun v hv => hp v (List.mem_cons_of_mem _ hv))
    intro x hx
    rcases List.mem_or_eq_of_mem_set hx with hx | hx
    · exact h x hx
    · rw [hx]; exact hp w (List.mem_cons_self)
theorem okG_turn (h : okG G ls) (hp : okV G ps) (hg : g.toNat ≤ G) (hG : G < 4294967296) : okG G (turnL ls ps fr g L) ∧ okV G (turnP ls ps fr g L) := by
  refine ⟨?_, ?_⟩
  · unfold turnL; split
    · exact okG_sync h (okV_lay hp hg hG _)
    · exact h
  · unfold turnP
    refine okV_write ?_ hg hG _
    split
    · exact okV_nil
    · exact okV_lay hp hg hG _
theorem readB_nil {i : Nat} (h : i < ls.length) : readB ls [] (i : Int) = ls.getD i [] := by
  have hin : inB ls (i : Int) = true := inB_of oM oM
  unfold readB; rw [if_pos hin]; rfl
theorem most_le (h : okG G ls) : ∀ k, k ≤ ls.length → (mostK ls [] k).toNat ≤ G
  | 0, _ => Nat.zero_le _
  | k + 1, hk => by
    have ih := most_le h k oM
    have hx := (h (ls.getD k []) (getD_mem oM)).2
    rw [← mostK_S, readB_nil oM, maxU_nat, maxU_nat]
    obtain ⟨h1, h2⟩ := hx
    omega
theorem new_le (h : okG G ls) (hG : G < 4294967295) : (newB ls [] == 0#64) = false ∧ (newB ls []).toNat ≤ G + 1 := by
  have hm := most_le h ls.length (Nat.le_refl _)
  unfold newB
  rw [if_neg (by show ¬ 4294967295 ≤ _; omega)]
  have e : (mostK ls [] ls.length + 1#64).toNat = (mostK ls [] ls.length).toNat + 1 := by rw [BitVec.toNat_add]; show ( _ + 1) % _ = _; omega
  refine ⟨?_, by rw [e]; omega⟩
  rw [beq_eq_false_iff_ne]; intro h0; rw [h0] at e; simp at e
end
/-- A new disk. -/
abbrev blank (n : Nat) : List (List (BitVec 8)) := List.replicate n (List.replicate 64 0)
theorem blank_G (n : Nat) : okG 0 (blank n) := fun x hx => by
  obtain rfl := List.eq_of_mem_replicate hx
  refine ⟨by simp, ?_⟩
  unfold GB; decide
theorem blank_read {n : Nat} {i : Int} : readB (blank n) [] i = List.replicate 64 0 := by
  unfold readB
  split
  · rename_i h
    have := inB_t h
    show (blank n).getD i.toNat [] = _
    rw [List.length_replicate] at this
    simp [List.getD_eq_getElem?_getD, show i.toNat < n by omega]
  · rfl
theorem blank_half {n : Nat} {fr sz : Int} : readH (blank n) [] fr sz = ⟨0#64, [], 0⟩ := by
  have hr : recF (blank n) [] fr sz 0#64 (BitVec.ofInt 64 (0 : Int)) (0 : Int) = recN := by
    unfold recF
    cases (sz - 0).toNat with
    | zero => rfl
    | succ f =>
      unfold recB
      rw [if_pos (by rw [blank_read]; decide)]
  unfold readH; rw [hr]; exact loopH_end (q := recN) rfl rfl |>.symm ▸ rfl
theorem blank_old {n : Nat} : oldB (blank n) [] = (((blank n).length : Int) / 2, [[]]) := by
  unfold oldB
  simp only [blank_half]
  rfl
theorem one1 {m : Nat} : ((1 + 0 * m : Nat) : Int) = (roomB [[]] : Int) := by rw [Nat.zero_mul]; rfl
theorem fits_yes {s ja : Int} {n : Nat} (h : fitsB s ja n = true) : (blocksN n : Int) ≤ s - ja := by
  unfold fitsB at h
  rw [Bool.and_eq_true] at h
  exact of_decide_eq_true h.2
end --m
end Go.Proofs.Ytfbnhoolkajebaa
