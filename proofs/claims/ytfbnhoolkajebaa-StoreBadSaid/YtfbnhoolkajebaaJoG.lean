/- The document's blocks of a record; all blocks of a disk. Conditions: none beyond those that each theorem states. -/
import Derived.Test.YtfbnhoolkajebaaJoF
namespace Go.Proofs.Ytfbnhoolkajebaa
set_option linter.unusedVariables false
set_option linter.unusedSimpArgs false
/-! ### The document's block -/
theorem rep_getD (n j : Nat) : (List.replicate n (0 : BitVec 8)).getD j 0 = 0 := by
  rw [List.getD_eq_getElem?_getD, List.getElem?_replicate]; split <;> rfl
theorem el_getD {α : Type} {l : List α} {j : Nat} {d : α} (h : j < l.length) : l[j] = l.getD j d := by simp [List.getD_eq_getElem?_getD, h]
def stampK (M : List (BitVec 8)) : Nat → List (BitVec 8)
  | 0 => List.replicate 64 0
  | i + 1 => ((stampK M i).set i (M.getD i 0)).set (54 + (i : Int) : Int).toNat (M.getD i 0)
def fillK (X P : List (BitVec 8)) : Nat → List (BitVec 8)
  | 0 => X
  | i + 1 => (fillK X P i).set (12 + (i : Int) : Int).toNat (P.getD i 0)
theorem stampK_len {M : List (BitVec 8)} : ∀ k, (stampK M k).length = 64
  | 0 => by show (List.replicate 64 0).length = _; simp
  | k + 1 => by show (((stampK M k).set _ _).set _ _).length = _; rw [List.length_set, List.length_set, stampK_len k]
theorem fillK_len {X P : List (BitVec 8)} : ∀ k, (fillK X P k).length = X.length
  | 0 => rfl
  | k + 1 => by show ((fillK X P k).set _ _).length = _; rw [List.length_set, fillK_len k]
theorem stampK_at {M : List (BitVec 8)} : ∀ k, k ≤ 10 → ∀ j, (stampK M k).getD j 0 = if j < k then M.getD j 0 else if 54 ≤ j ∧ j < 54 + k then M.getD (j - 54) 0 else 0
  | 0, _, j => by
    rw [if_neg oM, if_neg oM]
    exact rep_getD 64 j
  | k + 1, h, j => by
    have ih := stampK_at (M := M) k oM j
    have e : (54 + (k : Int) : Int).toNat = 54 + k := by omega
    show (((stampK M k).set k (M.getD k 0)).set (54 + (k : Int) : Int).toNat (M.getD k 0)).getD j 0 = _
    rw [e, getD_set' (by rw [List.length_set, stampK_len]; omega), getD_set' (by rw [stampK_len]; omega), ih]
    by_cases c1 : j = 54 + k
    · subst c1; rw [if_pos rfl, if_neg oM, if_pos oM, Nat.add_sub_cancel_left]
    · rw [if_neg c1]
      by_cases c2 : j = k
      · subst c2; rw [if_pos rfl, if_pos oM]
      · rw [if_neg c2]
        by_cases c3 : j < k
        · rw [if_pos c3, if_pos oM]
        · rw [if_neg c3, if_neg (show ¬ j < k + 1 by omega)]
          by_cases c4 : 54 ≤ j ∧ j < 54 + k
          · rw [if_pos c4, if_pos oM]
          · rw [if_neg c4, if_neg oM]
theorem fillK_at {X P : List (BitVec 8)} : ∀ k, 12 + k ≤ X.length → ∀ j, (fillK X P k).getD j 0 = if 12 ≤ j ∧ j < 12 + k then P.getD (j - 12) 0 else X.getD j 0
  | 0, _, j => by rw [if_neg oM]; rfl
  | k + 1, h, j => by
    have ih := fillK_at (X := X) (P := P) k oM j
    have e : (12 + (k : Int) : Int).toNat = 12 + k := by omega
    show ((fillK X P k).set (12 + (k : Int) : Int).toNat (P.getD k 0)).getD j 0 = _
    rw [e, getD_set' (by rw [fillK_len]; omega), ih]
    by_cases c1 : j = 12 + k
    · subst c1; rw [if_pos rfl, if_pos oM, Nat.add_sub_cancel_left]
    · rw [if_neg c1]
      by_cases c2 : 12 ≤ j ∧ j < 12 + k
      · rw [if_pos c2, if_pos oM]
      · rw [if_neg c2, if_neg oM]
theorem getD_app {a b : List (BitVec 8)} {j n : Nat} (h : a.length = n) : (a ++ b).getD j 0 = if j < n then a.getD j 0 else b.getD (j - n) 0 := by
  subst h
  by_cases c : j < a.length
  · rw [if_pos c]; simp [List.getD_eq_getElem?_getD, List.getElem?_append, c]
  · rw [if_neg c]; simp [List.getD_eq_getElem?_getD, List.getElem?_append, c]
theorem putB2_0 {n : Nat} (h : n ≤ 42) : (putB (BitVec.ofInt 64 (n : Int)) 2).getD 0 0 = 0 ∧ (putB (BitVec.ofInt 64 (n : Int)) 2).getD 1 0 = BitVec.ofInt 8 (n : Int) := by
  have : ∀ n : Nat, n < 43 → (putB (BitVec.ofInt 64 (n : Int)) 2).getD 0 0 = 0 ∧ (putB (BitVec.ofInt 64 (n : Int)) 2).getD 1 0 = BitVec.ofInt 8 (n : Int) := by decide +kernel
  exact this n oM
theorem raw_at {M P : List (BitVec 8)} (hm : M.length = 10) (hp : P.length ≤ 42) (j : Nat) : (rawB M P).getD j 0 = if j < 10 then M.getD j 0 else if j < 11 then 0 else if j < 12 then BitVec.ofInt 8 (P.length : Int) else if j < 12 + P.length then P.getD (j - 12) 0 else if j < 54 then 0 else M.getD (j - 54) 0 := by
  obtain ⟨p0, p1⟩ := putB2_0 hp
  unfold rawB
  rw [getD_app hm, getD_app (putB_len _ 2), getD_app (rfl : P.length = P.length), getD_app (List.length_replicate (n := 42 - P.length))]
  by_cases c1 : j < 10
  · rw [if_pos c1, if_pos c1]
  · rw [if_neg c1, if_neg c1]
    by_cases c2 : j < 11
    · have e : j - 10 = 0 := by omega
      rw [if_pos c2, if_pos oM, e, p0]
    · rw [if_neg c2]
      by_cases c3 : j < 12
      · have e : j - 10 = 1 := by omega
        rw [if_pos c3, if_pos oM, e, p1]
      · rw [if_neg c3, if_neg oM]
        by_cases c4 : j < 12 + P.length
        · rw [if_pos c4, if_pos oM, show j - 10 - 2 = j - 12 by omega]
        · rw [if_neg c4, if_neg oM]
          by_cases c5 : j < 54
          · rw [if_pos c5, if_pos oM]
            exact (rep_getD _ _)
          · rw [if_neg c5, if_neg oM]; congr 1; omega
theorem doc_raw {M P : List (BitVec 8)} {i i2 : Nat} (hm : M.length = 10) (hp : P.length ≤ 42) (hi : i = 10) (hi2 : i2 = P.length) : fillK ((stampK M i).set 11 (BitVec.ofInt 8 (P.length : Int))) P i2 = rawB M P := by
  subst hi hi2
  have hl : ((stampK M 10).set 11 (BitVec.ofInt 8 (P.length : Int))).length = 64 := by rw [List.length_set, stampK_len]
  apply List.ext_getElem
  · rw [fillK_len, hl, rawB_len hm hp]
  intro j h1 h2
  have eA : (fillK ((stampK M 10).set 11 (BitVec.ofInt 8 (P.length : Int))) P P.length)[j] = (fillK ((stampK M 10).set 11 (BitVec.ofInt 8 (P.length : Int))) P P.length).getD j 0 := el_getD h1
  have eB : (rawB M P)[j] = (rawB M P).getD j 0 := el_getD h2
  rw [rawB_len hm hp] at h2
  rw [eA, eB, raw_at hm hp, fillK_at _ (by rw [hl]; omega), getD_set' (by rw [stampK_len]; omega), stampK_at 10 (Nat.le_refl _)]
  by_cases c1 : j < 10
  · rw [if_pos c1, if_neg oM, if_neg oM, if_pos c1]
  · rw [if_neg c1, if_neg c1]
    by_cases c2 : j < 11
    · rw [if_pos c2, if_neg oM, if_neg oM, if_neg oM]
    · rw [if_neg c2]
      by_cases c3 : j < 12
      · rw [if_pos c3, if_neg oM, if_pos oM]
      · rw [if_neg c3]
        by_cases c4 : j < 12 + P.length
        · rw [if_pos c4, if_pos oM]
        · rw [if_neg c4, if_neg oM, if_neg oM]
          by_cases c5 : j < 54
          · rw [if_pos c5, if_neg oM]
          · rw [if_neg c5, if_pos oM]
def placeI (n k : Nat) : Int := if k + 1 = n then (k : Int) + 32768 else (k : Int)
theorem placeI_t {n k : Nat} (h : k + 1 = n) : (k : Int) + 32768 = placeI n k := by unfold placeI; rw [if_pos h]
theorem placeI_f {n k : Nat} (h : ¬ k + 1 = n) : (k : Int) = placeI n k := by unfold placeI; rw [if_neg h]
theorem placeI_le {n k : Nat} : 0 ≤ placeI n k ∧ placeI n k ≤ (k : Int) + 32768 := by unfold placeI; split <;> omega
theorem placeI_nat {n k : Nat} (h : k < 2048) : placeI n k = ((placeF n k).toNat : Int) := by
  obtain ⟨h1, h2, h3⟩ := place_b (n := n) h
  obtain ⟨a1, a2⟩ := and15 h1
  rw [a1] at h2
  rw [a2] at h3
  unfold placeI
  by_cases c : k + 1 = n
  · rw [if_pos c]
    rw [decide_eq_true c] at h2
    have := of_decide_eq_true h2
    omega
  · rw [if_neg c]
    rw [decide_eq_false c] at h2
    have := of_decide_eq_false h2
    omega
theorem byte_at {v : BitVec 64} {i : Int} (k : Nat) (hi : i = (v.toNat : Int)) : BitVec.ofInt 8 (i / ((2 ^ k : Nat) : Int)) = BitVec.setWidth 8 (v >>> k) := by
  subst hi
  apply BitVec.eq_of_toNat_eq
  rw [BitVec.toNat_ofInt, BitVec.toNat_setWidth, BitVec.toNat_ushiftRight, Nat.shiftRight_eq_div_pow]
  have e : ((v.toNat : Int) / ((2 ^ k : Nat) : Int)) = ((v.toNat / 2 ^ k : Nat) : Int) := by rfl
  rw [e]; omega
theorem mark_doc {g : BitVec 64} {m n k : Nat} (hm : m < 4294967296) (hk : k < 2048) :
    [BitVec.ofInt 8 ((g.toNat : Int) / 16777216), BitVec.ofInt 8 ((g.toNat : Int) / 65536), BitVec.ofInt 8 ((g.toNat : Int) / 256), BitVec.ofInt 8 (g.toNat : Int), BitVec.ofInt 8 ((m : Int) / 16777216), BitVec.ofInt 8 ((m : Int) / 65536), BitVec.ofInt 8 ((m : Int) / 256), BitVec.ofInt 8 (m : Int), BitVec.ofInt 8 (placeI n k / 256), BitVec.ofInt 8 (placeI n k)] = markB g (BitVec.ofInt 64 (m : Int)) (placeF n k) := by
  have hp := placeI_nat (n := n) hk
  have em : (m : Int) = ((BitVec.ofInt 64 (m : Int)).toNat : Int) := by rw [ofInt_nat oM]
  have one : ∀ (v : BitVec 64) (i : Int), i = (v.toNat : Int) → BitVec.ofInt 8 i = BitVec.setWidth 8 (v >>> 0) := fun v i h => by
    have := byte_at 0 h
    rw [← this]; congr 1; show i = i / 1; omega
  have e1 := byte_at (v := g) 24 rfl; have e2 := byte_at (v := g) 16 rfl; have e3 := byte_at (v := g) 8 rfl; have e4 := one g _ rfl
  have f1 := byte_at 24 em; have f2 := byte_at 16 em; have f3 := byte_at 8 em; have f4 := one _ _ em
  have p1 := byte_at 8 hp; have p2 := one _ _ hp
  have l4 : ∀ v : BitVec 64, putB v 4 = [BitVec.setWidth 8 (v >>> 24), BitVec.setWidth 8 (v >>> 16), BitVec.setWidth 8 (v >>> 8), BitVec.setWidth 8 (v >>> 0)] := fun v => rfl
  have l2 : ∀ v : BitVec 64, putB v 2 = [BitVec.setWidth 8 (v >>> 8), BitVec.setWidth 8 (v >>> 0)] := fun v => rfl
  unfold markB
  rw [l4, l4, l2, ← e1, ← e2, ← e3, ← e4, ← f1, ← f2, ← f3, ← f4, ← p1, ← p2]
  rfl
section
variable {b : List (BitVec 8)} {k : Nat}
theorem part_all : (b.drop (((42 * k : Nat) : Int) : Int).toNat).take (((b.length : Int) : Int).toNat - (((42 * k : Nat) : Int) : Int).toNat) = b.drop (42 * k) := by
  have e : (((42 * k : Nat) : Int) : Int).toNat = 42 * k := by omega
  rw [e, List.take_of_length_le (by simp)]
theorem part_last (h : decide (((((b.drop (((42 * k : Nat) : Int) : Int).toNat).take (((b.length : Int) : Int).toNat - (((42 * k : Nat) : Int) : Int).toNat)).length : Nat) : Int) ≤ 42) = true) : (b.drop (((42 * k : Nat) : Int) : Int).toNat).take (((b.length : Int) : Int).toNat - (((42 * k : Nat) : Int) : Int).toNat) = partB b k := by
  have h1 := of_decide_eq_true h
  rw [part_all] at h1 ⊢
  unfold partB; rw [List.take_of_length_le oM]
theorem last_iff (hk : k < blocksN b.length) : (((((b.drop (((42 * k : Nat) : Int) : Int).toNat).take (((b.length : Int) : Int).toNat - (((42 * k : Nat) : Int) : Int).toNat)).length : Nat) : Int) ≤ 42) ↔ k + 1 = blocksN b.length := by
  rw [part_all, List.length_drop]
  unfold blocksN at hk ⊢; omega
theorem blocks_in (h : ((42 * k : Nat) : Int) < (b.length : Int)) : k < blocksN b.length := by unfold blocksN; omega
theorem blocks_in0 (h : ((42 * k : Nat) : Int) = 0) : k < blocksN b.length := by unfold blocksN; omega
end
def blksK (g r : BitVec 64) (b : List (BitVec 8)) (k : Nat) : List (List (BitVec 8)) := (List.range k).map (blkOf g r (blocksN b.length) b)
theorem blksK_0 {g r : BitVec 64} {b : List (BitVec 8)} : [] = blksK g r b 0 := rfl
theorem blksK_S {g r : BitVec 64} {b : List (BitVec 8)} {k : Nat} : blksK g r b k ++ [blkOf g r (blocksN b.length) b k] = blksK g r b (k + 1) := by unfold blksK; rw [List.range_succ, List.map_append]; rfl
theorem blksK_D {g r : BitVec 64} {b : List (BitVec 8)} {k : Nat} (h : k = blocksN b.length) : blksK g r b k = blksD g r b := by subst h; rfl
attribute [local irreducible] crashB crashK pushB readB inB errB cutN seenW
attribute [local irreducible] markB putB getB getK partB placeF blkOf rawB writeK blocksN
attribute [local irreducible] mostK newB roomB
attribute [local irreducible] recB recF recN genF badB lastP dataB gOf rOf pOf nOf loopH readH
attribute [local irreducible] okP layK turnL turnP oldB
attribute [local irreducible] openD
attribute [local irreducible] okG okV GB natB fitsB
attribute [local irreducible] syncF
attribute [local irreducible] gY rY pY nY wholeY dY halfL halfR diskR
attribute [local irreducible] putD blksD layD
attribute [local irreducible] placeI blksK
set_option maxHeartbeats 2000000 in
theorem c_rblocksF (G : BitVec 64) (m : Nat) (vb : Value) (b : List (BitVec 8)) (w0 : World)  (hb : Rd (blks w0) u8 vb b) (hbl : b.length ≤ 84000) (hg : G.toNat ≤ 4294967296) (hm : m ≤ 65536) : CallsR Try.prog 44 #[(i64 (G.toNat : Int)), (i64 (m : Int)), vb] w0 (fun r1 w1 => ∃ Hs, GrowK (encA u8) 64 83 r1 (blksD G (BitVec.ofInt 64 (m : Int)) b) Hs ∧ Mem w1 (restOf w0) Hs) := by
 refine callsR_of_cw (args := [(i64 (G.toNat : Int)), (i64 (m : Int)), vb]) Try.func44 rfl Try.ntmps44 Try.results44 rfl ?_
 have hm0 : Mem w0 (restOf w0) [] := Mem.of_world w0
 refine sR <| rw_q rfl (ev_assign (v := (Value.slice none 0 0)) rfl) ?_
 refine rN (sR ?_)
 refine rw_c rfl (or_buildSlice_p (c := #[]) hm0 uT40 ti83 rfl pm_nil (by kernel_rfl)) ?_
 rintro _ w1 ⟨b16, rfl, _ew1, hm1⟩
 have hm1 : Mem w1 (restOf w0) [(b16, .cells #[] 83 (0, 0))] := hm1
 refine rw_q rfl (ev_assign (v := (slc b16 0 0 0)) rfl) ?_
 refine rN (cw_seq (sR ?_))
 refine rw_q rfl (ev_assign (v := (i64 0)) rfl) ?_
 refine rN (cw_block ?_)
 refine cw_loop (fun g wv => ∃ (k : Nat) (vo : Value) (lo : List (List (BitVec 8))) (Ho : List (Nat × Obj)), (42 * k ≤ b.length + 41 ∨ k ≤ 1) ∧ (lo.length = k) ∧ (lo = (blksK G (BitVec.ofInt 64 (m : Int)) b k)) ∧ (GrowK (encA u8) 64 83 vo lo Ho) ∧ g 0 = (i64 (G.toNat : Int)) ∧ g 1 = (i64 (m : Int)) ∧ g 2 = vb ∧ g 6 = (Value.slice none 0 0) ∧ g 7 = vo ∧ g 8 = (i64 ((42 * k : Nat) : Int)) ∧ Mem wv (restOf w0) (Ho ++ ([]))) (fun g wv => ((b.length : Int) + 42 - RowKit.intOf (g 8)).toNat) ?_ ?_
 · exact ⟨0, (slc b16 0 0 0), [], [(b16, .cells #[] 83 (0, 0))], oM, rfl, blksK_0, (GrowK.of (encA u8) 64 83 b16 [] rfl (by simp)), rfl, rfl, rfl, rfl, rfl, rfl, (by
   have hT := hm1
   try simp only [List.append_assoc, List.cons_append, List.nil_append, List.append_nil] at hT ⊢
   exact hT)⟩
 · rintro fr2 w3 ⟨k, vo, lo, Ho, hk, hlo, hle, go, s0, s1, s2, s6, s7, s8, hm3⟩
   have z7 := s7
   have z8 := s8
   refine cw_seq (sR ?_)
   refine rM rfl s8 <| rM rfl s2 <| rw_q (v := (i64 (b.length : Int))) rfl (ev_len_rd (Rd.ofRest hb hm3) uT23 rfl) <| rw_q rfl (ev_i64_lss rfl rfl) <| rw_q rfl (ev_move (v := (bl (decide (((42 * k : Nat) : Int) < (b.length : Int))))) rfl) ?_
   rcases Bool.eq_false_or_eq_true (decide (((42 * k : Nat) : Int) < (b.length : Int))) with hb4 | hb4
   · -- true
     have hb4p := of_decide_eq_true hb4
     refine rw_gn (s := 21) rfl rfl hb4 rfl <| rw_gn (s := 21) rfl rfl hb4 rfl <| rw_q rfl (ev_pick_tk rfl hb4 rfl) <| rN <| cw_cond_t rfl (by decide) ?_
     refine cw_skip (kThen_normal (cw_seq (cw_block (cw_seq ?_))))
     have hkn : k < blocksN b.length := blocks_in (of_decide_eq_true hb4)
     have hn2 : blocksN b.length ≤ 2001 := by unfold blocksN; omega
     have hpl := partB_len b k
     have hli := last_iff hkn
     have hpi := placeI_le (n := blocksN b.length) (k := k)
     refine cw_region <| rM rfl s2 <| rM rfl s8 <| rw_q rfl (ev_slice_rd (i := ((42 * k : Nat) : Int)) (j := (b.length : Int)) (Rd.ofRest hb hm3) uT23 ti5 rfl (optI_some (k := .i64) (i := ((42 * k : Nat) : Int)) rfl) (optI_none _ _) oM sL sL) <| rw_q rfl (ev_assign (v := (subv vb ((42 * k : Nat) : Int) (b.length : Int))) rfl) ?_
     refine rN (sR ?_)
     refine rw_q rfl (ev_move (v := (subv vb ((42 * k : Nat) : Int) (b.length : Int))) rfl) <| rw_q (v := (i64 (((b.drop (((42 * k : Nat) : Int) : Int).toNat).take (((b.length : Int) : Int).toNat - (((42 * k : Nat) : Int) : Int).toNat)).length : Int))) rfl (ev_len_rd (Rd.cast (l' := (b.drop (((42 * k : Nat) : Int) : Int).toNat).take (((b.length : Int) : Int).toNat - (((42 * k : Nat) : Int) : Int).toNat)) (Rd.sub (Rd.ofRest hb hm3) oM sL sL) rfl) uT23 rfl) <| rw_q rfl (ev_i64_leq (b := 42) rfl rfl) <| rA rfl rfl ?_
     refine rN (cw_seq (sR ?_))
     refine rM rfl rfl <| rw_q rfl (ev_not rfl) <| rN ?_
     refine CW.abs (fun g => g 0 = (i64 (G.toNat : Int)) ∧ g 1 = (i64 (m : Int)) ∧ g 2 = vb ∧ g 6 = (Value.slice none 0 0) ∧ g 7 = vo ∧ g 8 = (i64 ((42 * k : Nat) : Int)) ∧ g 9 = (subv vb ((42 * k : Nat) : Int) (b.length : Int)) ∧ g 10 = (bl (decide ((((b.drop (((42 * k : Nat) : Int) : Int).toNat).take (((b.length : Int) : Int).toNat - (((42 * k : Nat) : Int) : Int).toNat)).length : Int) ≤ 42))) ∧ g 24 = (bl true) ∧ g 34 = (bl (!(decide ((((b.drop (((42 * k : Nat) : Int) : Int).toNat).take (((b.length : Int) : Int).toNat - (((42 * k : Nat) : Int) : Int).toNat)).length : Int) ≤ 42)))) ∧ True) ⟨s0, s1, s2, s6, s7, s8, rfl, rfl, rfl, rfl, trivial⟩ ?_
     rintro fr5 ⟨s0, s1, s2, s6, s7, s8, s9, s10, s24, s34, _⟩
     refine cw_meet (J := fun g wv => ∃ (vq : Value), (Rd (blks w0) u8 vq (partB b k)) ∧ g 0 = (i64 (G.toNat : Int)) ∧ g 1 = (i64 (m : Int)) ∧ g 2 = vb ∧ g 6 = (Value.slice none 0 0) ∧ g 7 = vo ∧ g 8 = (i64 ((42 * k : Nat) : Int)) ∧ g 9 = vq ∧ g 10 = (bl (decide ((((b.drop (((42 * k : Nat) : Int) : Int).toNat).take (((b.length : Int) : Int).toNat - (((42 * k : Nat) : Int) : Int).toNat)).length : Int) ≤ 42))) ∧ g 24 = (bl true) ∧ g 34 = (bl (!(decide ((((b.drop (((42 * k : Nat) : Int) : Int).toNat).take (((b.length : Int) : Int).toNat - (((42 * k : Nat) : Int) : Int).toNat)).length : Int) ≤ 42)))) ∧ Mem wv (restOf w0) (Ho ++ ([]))) ?_ ?_
     · skip
       refine cw_cond s34 (fun hc6 => ?_) (fun hc6 => ?_)
       · -- true
         have hc6n : (decide ((((b.drop (((42 * k : Nat) : Int) : Int).toNat).take (((b.length : Int) : Int).toNat - (((42 * k : Nat) : Int) : Int).toNat)).length : Int) ≤ 42)) = false := by simpa using hc6
         have hc6p := of_decide_eq_false hc6n
         refine cw_region <| rM rfl s9 <| rw_q rfl (ev_slice_rd (i := 0) (j := 42) (Rd.cast (l' := (b.drop (((42 * k : Nat) : Int) : Int).toNat).take (((b.length : Int) : Int).toNat - (((42 * k : Nat) : Int) : Int).toNat)) (Rd.sub (Rd.ofRest hb hm3) oM sL sL) rfl) uT23 ti5 rfl (optI_none _ _) (optI_some (k := .i64) (i := 42) rfl) oM sL sL) <| rw_q rfl (ev_assign (v := (subv (subv vb ((42 * k : Nat) : Int) (b.length : Int)) 0 42)) rfl) <| rN ?_
         exact ⟨(subv (subv vb ((42 * k : Nat) : Int) (b.length : Int)) 0 42), (Rd.cast (l' := partB b k) (Rd.cast (l' := (((b.drop (((42 * k : Nat) : Int) : Int).toNat).take (((b.length : Int) : Int).toNat - (((42 * k : Nat) : Int) : Int).toNat)).drop 0).take 42) (Rd.sub (Rd.cast (l' := (b.drop (((42 * k : Nat) : Int) : Int).toNat).take (((b.length : Int) : Int).toNat - (((42 * k : Nat) : Int) : Int).toNat)) (Rd.sub (Rd.ofRest hb hm0) oM sL sL) rfl) oM sL sL) rfl) (by rw [part_all]; unfold partB; simp)), s0, s1, s2, s6, s7, s8, rfl, s10, s24, s34, hm3⟩
       · -- false
         have hc6n : (decide ((((b.drop (((42 * k : Nat) : Int) : Int).toNat).take (((b.length : Int) : Int).toNat - (((42 * k : Nat) : Int) : Int).toNat)).length : Int) ≤ 42)) = true := by simpa using hc6
         have hc6p := of_decide_eq_true hc6n
         refine cw_skip (kThen_normal ?_)
         exact ⟨(subv vb ((42 * k : Nat) : Int) (b.length : Int)), (Rd.cast (l' := partB b k) (Rd.cast (l' := (b.drop (((42 * k : Nat) : Int) : Int).toNat).take (((b.length : Int) : Int).toNat - (((42 * k : Nat) : Int) : Int).toNat)) (Rd.sub (Rd.ofRest hb hm0) oM sL sL) rfl) (part_last (by simpa using hc6))), s0, s1, s2, s6, s7, s8, s9, s10, s24, s34, hm3⟩
     · rintro fr7 w8 ⟨vq, hvq, s0, s1, s2, s6, s7, s8, s9, s10, s24, s34, hm8⟩
       refine sR <| rw_q rfl (ev_build_arr (ps := []) (c := (cl u8 (List.replicate 64 0))) ti83 uT83 ti5 (by simp) rfl) <| rw_c rfl (or_alloc_agg hm8 ti83) ?_
       rintro _ w9 ⟨b11, rfl, _ew9, hm9⟩
       refine rw_n (or_store_agg (f := u8) (l := List.replicate 64 0) u8_one ti83 rfl rfl sL hm9.h0 (by rw [size_cl]; first | omega | (simp only [List.length_set, List.length_append, List.length_replicate, List.length_map, List.length_cons, List.length_nil]; omega) | (simp; done) | (simp; omega) | decide) rfl) ?_
       rintro _ w10 uq10
       have hm10 := hm9.upd0 uq10
       refine rN (sR ?_)
       refine rM rfl s7 <| rw_q (v := (i64 (lo.length : Int))) rfl (ev_len_rk (go.rd (Mem.pick [_] Ho _ hm10)) uT40 rfl) <| rw_q rfl (ev_assign (v := (i64 (lo.length : Int))) rfl) ?_
       refine rN (cw_seq (sR ?_))
       refine rM rfl s10 <| rN ?_
       refine cw_meet (J := fun g wv => g 0 = (i64 (G.toNat : Int)) ∧ g 1 = (i64 (m : Int)) ∧ g 2 = vb ∧ g 6 = (Value.slice none 0 0) ∧ g 7 = vo ∧ g 8 = (i64 ((42 * k : Nat) : Int)) ∧ g 9 = vq ∧ g 10 = (bl (decide ((((b.drop (((42 * k : Nat) : Int) : Int).toNat).take (((b.length : Int) : Int).toNat - (((42 * k : Nat) : Int) : Int).toNat)).length : Int) ≤ 42))) ∧ g 11 = (ptr b11 0) ∧ g 12 = (i64 (placeI (blocksN b.length) k)) ∧ g 24 = (bl true) ∧ g 34 = (bl (!(decide ((((b.drop (((42 * k : Nat) : Int) : Int).toNat).take (((b.length : Int) : Int).toNat - (((42 * k : Nat) : Int) : Int).toNat)).length : Int) ≤ 42)))) ∧ g 40 = (bl (decide ((((b.drop (((42 * k : Nat) : Int) : Int).toNat).take (((b.length : Int) : Int).toNat - (((42 * k : Nat) : Int) : Int).toNat)).length : Int) ≤ 42))) ∧ Mem wv (restOf w0) ([(b11, .cells (cl u8 (List.replicate 64 0)) 83 (0, 0))] ++ (Ho ++ ([])))) ?_ ?_
       · skip
         refine cw_cond rfl (fun hc11 => ?_) (fun hc11 => ?_)
         · -- true
           have hc11p := of_decide_eq_true hc11
           refine cw_region <| rw_q rfl (ev_move (v := (i64 (lo.length : Int))) rfl) <| rw_q rfl (ev_i64_add (b := 32768) rfl rfl oM oM) <| rw_q rfl (ev_assign (v := (i64 ((lo.length : Int) + 32768))) rfl) <| rN ?_
           exact ⟨s0, s1, s2, s6, s7, s8, s9, s10, rfl, (Eq.trans rfl (congrArg i64 (by rw [hlo]; exact placeI_t (hli.1 (of_decide_eq_true hc11))))), s24, s34, rfl, hm10⟩
         · -- false
           have hc11p := of_decide_eq_false hc11
           refine cw_skip (kThen_normal ?_)
           exact ⟨s0, s1, s2, s6, s7, s8, s9, s10, rfl, (Eq.trans rfl (congrArg i64 (by rw [hlo]; exact placeI_f (fun h => (of_decide_eq_false hc11) (hli.2 h))))), s24, s34, rfl, hm10⟩
       · rintro fr12 w13 ⟨s0, s1, s2, s6, s7, s8, s9, s10, s11, s12, s24, s34, s40, hm13⟩
         refine sR <| rM rfl s0 <| rw_q rfl (ev_i64_shrK (p := 16777216) (b := 24) rfl rfl rfl (by decide) (by decide)) <| rw_q rfl (ev_conv_i64_u8 ⟨_, uT3⟩ uT5 rfl) <| rM rfl s0 <| rw_q rfl (ev_i64_shrK (p := 65536) (b := 16) rfl rfl rfl (by decide) (by decide)) ?_
         refine rw_q rfl (ev_conv_i64_u8 ⟨_, uT3⟩ uT5 rfl) <| rM rfl s0 <| rw_q rfl (ev_i64_shrK (p := 256) (b := 8) rfl rfl rfl (by decide) (by decide)) <| rw_q rfl (ev_conv_i64_u8 ⟨_, uT3⟩ uT5 rfl) <| rM rfl s0 <| rw_q rfl (ev_conv_i64_u8 ⟨_, uT3⟩ uT5 rfl) ?_
         refine rM rfl s1 <| rw_q rfl (ev_i64_shrK (p := 16777216) (b := 24) rfl rfl rfl (by decide) (by decide)) <| rw_q rfl (ev_conv_i64_u8 ⟨_, uT3⟩ uT5 rfl) <| rM rfl s1 <| rw_q rfl (ev_i64_shrK (p := 65536) (b := 16) rfl rfl rfl (by decide) (by decide)) <| rw_q rfl (ev_conv_i64_u8 ⟨_, uT3⟩ uT5 rfl) ?_
         refine rM rfl s1 <| rw_q rfl (ev_i64_shrK (p := 256) (b := 8) rfl rfl rfl (by decide) (by decide)) <| rw_q rfl (ev_conv_i64_u8 ⟨_, uT3⟩ uT5 rfl) <| rM rfl s1 <| rw_q rfl (ev_conv_i64_u8 ⟨_, uT3⟩ uT5 rfl) <| rM rfl s12 ?_
         refine rw_q rfl (ev_i64_shrK (p := 256) (b := 8) rfl rfl rfl (by decide) (by decide)) <| rw_q rfl (ev_conv_i64_u8 ⟨_, uT3⟩ uT5 rfl) <| rM rfl s12 <| rw_q rfl (ev_conv_i64_u8 ⟨_, uT3⟩ uT5 rfl) <| rw_c rfl (or_buildSlice_cl u8 [BitVec.ofInt 8 ((G.toNat : Int) / 16777216), BitVec.ofInt 8 ((G.toNat : Int) / 65536), BitVec.ofInt 8 ((G.toNat : Int) / 256), BitVec.ofInt 8 (G.toNat : Int), BitVec.ofInt 8 ((m : Int) / 16777216), BitVec.ofInt 8 ((m : Int) / 65536), BitVec.ofInt 8 ((m : Int) / 256), BitVec.ofInt 8 (m : Int), BitVec.ofInt 8 ((placeI (blocksN b.length) k) / 256), BitVec.ofInt 8 (placeI (blocksN b.length) k)] u8_one hm13 uT23 ti5 rfl rfl rfl) ?_
         rintro _ w14 ⟨b70, rfl, _ew14, hm14⟩
         refine rw_q rfl (ev_assign (v := (slc b70 0 10 10)) rfl) ?_
         have hx15 : [BitVec.ofInt 8 ((G.toNat : Int) / 16777216), BitVec.ofInt 8 ((G.toNat : Int) / 65536), BitVec.ofInt 8 ((G.toNat : Int) / 256), BitVec.ofInt 8 (G.toNat : Int), BitVec.ofInt 8 ((m : Int) / 16777216), BitVec.ofInt 8 ((m : Int) / 65536), BitVec.ofInt 8 ((m : Int) / 256), BitVec.ofInt 8 (m : Int), BitVec.ofInt 8 ((placeI (blocksN b.length) k) / 256), BitVec.ofInt 8 (placeI (blocksN b.length) k)] = (markB G (BitVec.ofInt 64 (m : Int)) (placeF (blocksN b.length) k)) := mark_doc oM oM
         have hm16 : Mem w14 (restOf w0) ([(b70, .cells (cl u8 (markB G (BitVec.ofInt 64 (m : Int)) (placeF (blocksN b.length) k))) 5 (0, 0)), (b11, .cells (cl u8 (List.replicate 64 0)) 83 (0, 0))] ++ (Ho ++ ([]))) := by rw [← hx15]; exact hm14
         refine rN ?_
         refine CW.abs (fun g => g 0 = (i64 (G.toNat : Int)) ∧ g 1 = (i64 (m : Int)) ∧ g 2 = vb ∧ g 6 = (Value.slice none 0 0) ∧ g 7 = vo ∧ g 8 = (i64 ((42 * k : Nat) : Int)) ∧ g 9 = vq ∧ g 10 = (bl (decide ((((b.drop (((42 * k : Nat) : Int) : Int).toNat).take (((b.length : Int) : Int).toNat - (((42 * k : Nat) : Int) : Int).toNat)).length : Int) ≤ 42))) ∧ g 11 = (ptr b11 0) ∧ g 12 = (i64 (placeI (blocksN b.length) k)) ∧ g 13 = (slc b70 0 10 10) ∧ g 24 = (bl true) ∧ g 34 = (bl (!(decide ((((b.drop (((42 * k : Nat) : Int) : Int).toNat).take (((b.length : Int) : Int).toNat - (((42 * k : Nat) : Int) : Int).toNat)).length : Int) ≤ 42)))) ∧ g 40 = (bl (decide ((((b.drop (((42 * k : Nat) : Int) : Int).toNat).take (((b.length : Int) : Int).toNat - (((42 * k : Nat) : Int) : Int).toNat)).length : Int) ≤ 42))) ∧ True) ⟨s0, s1, s2, s6, s7, s8, s9, s10, s11, s12, rfl, s24, s34, s40, trivial⟩ ?_
         rintro fr17 ⟨s0, s1, s2, s6, s7, s8, s9, s10, s11, s12, s13, s24, s34, s40, _⟩
         refine cw_seq (sR ?_)
         refine rw_q rfl (ev_assign (v := (i64 0)) rfl) ?_
         refine rN (cw_block ?_)
         refine cw_loop (fun g wv => ∃ (i : Nat), ((i : Int) ≤ 10) ∧ ((stampK (markB G (BitVec.ofInt 64 (m : Int)) (placeF (blocksN b.length) k)) i).length = 64) ∧ g 0 = (i64 (G.toNat : Int)) ∧ g 1 = (i64 (m : Int)) ∧ g 2 = vb ∧ g 6 = (Value.slice none 0 0) ∧ g 7 = vo ∧ g 8 = (i64 ((42 * k : Nat) : Int)) ∧ g 9 = vq ∧ g 10 = (bl (decide ((((b.drop (((42 * k : Nat) : Int) : Int).toNat).take (((b.length : Int) : Int).toNat - (((42 * k : Nat) : Int) : Int).toNat)).length : Int) ≤ 42))) ∧ g 11 = (ptr b11 0) ∧ g 12 = (i64 (placeI (blocksN b.length) k)) ∧ g 13 = (slc b70 0 10 10) ∧ g 14 = (i64 (i : Int)) ∧ g 24 = (bl true) ∧ g 34 = (bl (!(decide ((((b.drop (((42 * k : Nat) : Int) : Int).toNat).take (((b.length : Int) : Int).toNat - (((42 * k : Nat) : Int) : Int).toNat)).length : Int) ≤ 42)))) ∧ g 40 = (bl (decide ((((b.drop (((42 * k : Nat) : Int) : Int).toNat).take (((b.length : Int) : Int).toNat - (((42 * k : Nat) : Int) : Int).toNat)).length : Int) ≤ 42))) ∧ Mem wv (restOf w0) ([(b11, .cells (cl u8 (stampK (markB G (BitVec.ofInt 64 (m : Int)) (placeF (blocksN b.length) k)) i)) 83 (0, 0)), (b70, .cells (cl u8 (markB G (BitVec.ofInt 64 (m : Int)) (placeF (blocksN b.length) k))) 5 (0, 0))] ++ (Ho ++ ([])))) (fun g wv => (10 - RowKit.intOf (g 14)).toNat) ?_ ?_
         have hm18 := (Mem.pick [_, _] Ho _ hm16)
         have hm19 := (Mem.pick Ho [_] _ hm18)
         have hm20 := (Mem.pick2 [_] Ho [_] _ hm19)
         · exact ⟨0, oM, (stampK_len _), s0, s1, s2, s6, s7, s8, s9, s10, s11, s12, s13, rfl, s24, s34, s40, hm20⟩
         · rintro fr21 w22 ⟨i, hi, hst, s0, s1, s2, s6, s7, s8, s9, s10, s11, s12, s13, s14, s24, s34, s40, hm22⟩
           have z14 := s14
           refine cw_seq (sR ?_)
           refine rM rfl s14 <| rw_q rfl (ev_i64_lss (b := 10) rfl rfl) <| rN ?_
           refine cw_cond rfl (fun hc23 => ?_) (fun hc23 => ?_)
           · -- true
             have hc23p := of_decide_eq_true hc23
             refine cw_skip (kThen_normal (cw_seq (cw_block (sR ?_))))
             refine rM rfl s14 <| rM rfl s13 <| rM rfl s14 <| rw_q rfl (ev_ia_slc (r := i) oM uT23 ti5 rfl rfl oM sL) <| rw_q (v := (u8 ((markB G (BitVec.ofInt 64 (m : Int)) (placeF (blocksN b.length) k)).getD i 0))) rfl (ev_load1 uT5 rfl rfl hm22.h1 (get_clD _ _ 0 sL)) <| rw_q rfl (ev_ia_arr (r := i) oM uT83 ti5 s11 rfl oM sL) ?_
             refine rw_n (or_store_cl (f := u8) (a := (markB G (BitVec.ofInt 64 (m : Int)) (placeF (blocksN b.length) k)).getD i 0) u8_one ti5 rfl rfl hm22.h0 sL (.inl (Nat.zero_le _))) ?_
             rintro _ w24 uq24
             have hm24 := hm22.upd0 uq24
             refine rN (cw_region ?_)
             refine rM rfl s14 <| rw_q rfl (ev_i64_add (a := 54) rfl rfl oM oM) <| rM rfl s13 <| rM rfl s14 <| rw_q rfl (ev_ia_slc (r := i) oM uT23 ti5 rfl rfl oM sL) <| rw_q (v := (u8 ((markB G (BitVec.ofInt 64 (m : Int)) (placeF (blocksN b.length) k)).getD i 0))) rfl (ev_load1 uT5 rfl rfl hm24.h1 (get_clD _ _ 0 sL)) ?_
             refine rw_q rfl (ev_ia_arr (r := (54 + (i : Int) : Int).toNat) oM uT83 ti5 s11 rfl oM sL) <| rw_n (or_store_cl (f := u8) (a := (markB G (BitVec.ofInt 64 (m : Int)) (placeF (blocksN b.length) k)).getD i 0) u8_one ti5 rfl rfl hm24.h0 sL (.inl (Nat.zero_le _))) ?_
             rintro _ w25 uq25
             have hm25 := hm24.upd0 uq25
             refine rw_nil (kBlk_normal (cw_region ?_))
             refine rM rfl s14 <| rw_q rfl (ev_i64_add (b := 1) rfl rfl oM oM) <| rw_q rfl (ev_assign (v := (i64 ((i : Int) + 1))) rfl) <| rN ?_
             exact ⟨⟨(i + 1), oM, (stampK_len _), s0, s1, s2, s6, s7, s8, s9, s10, s11, s12, s13, rfl, s24, s34, s40, hm25⟩, meas (rfl) z14 oM oM⟩
           · -- false
             have hc23p := of_decide_eq_false hc23
             refine cw_exit ?_
             refine kThen_exit (kThen_exit (kBlk_hit ?_))
             refine sR <| rM rfl s9 <| rw_q (v := (i64 ((partB b k).length : Int))) rfl (ev_len_rd (Rd.ofRest hvq hm22) uT23 rfl) <| rw_q rfl (ev_conv_i64_u8 ⟨_, uT3⟩ uT5 rfl) <| rw_q rfl (ev_ia_arr (r := 11) (i := 11) oM uT83 ti5 s11 rfl oM oM) <| rw_n (or_store_cl (f := u8) (a := BitVec.ofInt 8 ((partB b k).length : Int)) u8_one ti5 rfl rfl hm22.h0 sL (.inl (Nat.zero_le _))) ?_
             rintro _ w26 uq26
             have hm26 := hm22.upd0 uq26
             refine rN (cw_seq (sR ?_))
             refine rw_q rfl (ev_assign (v := (i64 0)) rfl) ?_
             refine rN (cw_block ?_)
             refine cw_loop (fun g wv => ∃ (i2 : Nat), ((i2 : Int) ≤ ((partB b k).length : Int)) ∧ ((fillK ((stampK (markB G (BitVec.ofInt 64 (m : Int)) (placeF (blocksN b.length) k)) i).set 11 (BitVec.ofInt 8 ((partB b k).length : Int))) (partB b k) i2).length = 64) ∧ g 0 = (i64 (G.toNat : Int)) ∧ g 1 = (i64 (m : Int)) ∧ g 2 = vb ∧ g 6 = (Value.slice none 0 0) ∧ g 7 = vo ∧ g 8 = (i64 ((42 * k : Nat) : Int)) ∧ g 9 = vq ∧ g 10 = (bl (decide ((((b.drop (((42 * k : Nat) : Int) : Int).toNat).take (((b.length : Int) : Int).toNat - (((42 * k : Nat) : Int) : Int).toNat)).length : Int) ≤ 42))) ∧ g 11 = (ptr b11 0) ∧ g 12 = (i64 (placeI (blocksN b.length) k)) ∧ g 13 = (slc b70 0 10 10) ∧ g 14 = (i64 (i : Int)) ∧ g 15 = (i64 (i2 : Int)) ∧ g 24 = (bl true) ∧ g 34 = (bl (!(decide ((((b.drop (((42 * k : Nat) : Int) : Int).toNat).take (((b.length : Int) : Int).toNat - (((42 * k : Nat) : Int) : Int).toNat)).length : Int) ≤ 42)))) ∧ g 40 = (bl (decide ((((b.drop (((42 * k : Nat) : Int) : Int).toNat).take (((b.length : Int) : Int).toNat - (((42 * k : Nat) : Int) : Int).toNat)).length : Int) ≤ 42))) ∧ g 72 = (bl (decide ((i : Int) < 10))) ∧ Mem wv (restOf w0) ([(b11, .cells (cl u8 (fillK ((stampK (markB G (BitVec.ofInt 64 (m : Int)) (placeF (blocksN b.length) k)) i).set 11 (BitVec.ofInt 8 ((partB b k).length : Int))) (partB b k) i2)) 83 (0, 0)), (b70, .cells (cl u8 (markB G (BitVec.ofInt 64 (m : Int)) (placeF (blocksN b.length) k))) 5 (0, 0))] ++ (Ho ++ ([])))) (fun g wv => (((partB b k).length : Int) - RowKit.intOf (g 15)).toNat) ?_ ?_
             · exact ⟨0, oM, (by rw [fillK_len, List.length_set, stampK_len]), s0, s1, s2, s6, s7, s8, s9, s10, s11, s12, s13, s14, rfl, s24, s34, s40, rfl, hm26⟩
             · rintro fr27 w28 ⟨i2, hi2, hft, s0, s1, s2, s6, s7, s8, s9, s10, s11, s12, s13, s14, s15, s24, s34, s40, s72, hm28⟩
               have z15 := s15
               refine cw_seq (sR ?_)
               refine rM rfl s15 <| rM rfl s9 <| rw_q (v := (i64 ((partB b k).length : Int))) rfl (ev_len_rd (Rd.ofRest hvq hm28) uT23 rfl) <| rw_q rfl (ev_i64_lss rfl rfl) <| rN ?_
               refine cw_cond rfl (fun hc29 => ?_) (fun hc29 => ?_)
               · -- true
                 have hc29p := of_decide_eq_true hc29
                 refine cw_skip (kThen_normal (cw_seq (cw_block (cw_region ?_))))
                 refine rM rfl s15 <| rw_q rfl (ev_i64_add (a := 12) rfl rfl oM oM) <| rM rfl s9 <| rM rfl s15 <| rw_q rfl (ev_indexAddr_rdv (Rd.ofRest hvq hm28) uT23 ti5 rfl rfl oM sL) <| rw_q (v := (u8 ((partB b k).getD i2 0))) rfl (ev_load_rdD (l := (partB b k)) (i := (i2 : Int)) (dflt := 0) (Rd.ofRest hvq hm28) uT5 rfl oM sL rfl) ?_
                 refine rw_q rfl (ev_ia_arr (r := (12 + (i2 : Int) : Int).toNat) oM uT83 ti5 s11 rfl oM sL) <| rw_n (or_store_cl (f := u8) (a := (partB b k).getD i2 0) u8_one ti5 rfl rfl hm28.h0 sL (.inl (Nat.zero_le _))) ?_
                 rintro _ w30 uq30
                 have hm30 := hm28.upd0 uq30
                 refine rw_nil (kBlk_normal (cw_region ?_))
                 refine rM rfl s15 <| rw_q rfl (ev_i64_add (b := 1) rfl rfl oM oM) <| rw_q rfl (ev_assign (v := (i64 ((i2 : Int) + 1))) rfl) <| rN ?_
                 exact ⟨⟨(i2 + 1), oM, (by rw [fillK_len, List.length_set, stampK_len]), s0, s1, s2, s6, s7, s8, s9, s10, s11, s12, s13, s14, rfl, s24, s34, s40, s72, hm30⟩, meas (rfl) z15 oM oM⟩
               · -- false
                 have hc29p := of_decide_eq_false hc29
                 have hx31 : fillK ((stampK (markB G (BitVec.ofInt 64 (m : Int)) (placeF (blocksN b.length) k)) i).set 11 (BitVec.ofInt 8 ((partB b k).length : Int))) (partB b k) i2 = blkOf G (BitVec.ofInt 64 (m : Int)) (blocksN b.length) b k := (doc_raw (markB_len _ _ _) hpl oM oM).trans blk_fold
                 have hm32 : Mem w28 (restOf w0) ([(b11, .cells (cl u8 (blkOf G (BitVec.ofInt 64 (m : Int)) (blocksN b.length) b k)) 83 (0, 0)), (b70, .cells (cl u8 (markB G (BitVec.ofInt 64 (m : Int)) (placeF (blocksN b.length) k))) 5 (0, 0))] ++ (Ho ++ ([]))) := by rw [← hx31]; exact hm28
                 refine cw_exit ?_
                 refine kThen_exit (kThen_exit (kBlk_hit ?_))
                 refine cw_region <| rM rfl s7 <| rw_q (v := (agg u8 (blkOf G (BitVec.ofInt 64 (m : Int)) (blocksN b.length) b k))) rfl (ev_loadA uT83 rfl ti83 s11 hm32.h0 (by rw [size_cl]; first | omega | (simp only [List.length_set, List.length_append, List.length_replicate, List.length_map, List.length_cons, List.length_nil]; omega) | (simp; done) | (simp; omega) | decide)) <| rw_c rfl (or_buildSlice_k1 (cs := (cl u8 (blkOf G (BitVec.ofInt 64 (m : Int)) (blocksN b.length) b k))) hm32 uT40 ti83 rfl rfl rfl (by rw [size_cl]; first | omega | (simp only [List.length_set, List.length_append, List.length_replicate, List.length_map, List.length_cons, List.length_nil]; omega) | (simp; done) | (simp; omega) | decide)) ?_
                 rintro _ w33 ⟨b107, rfl, _ew33, hm33⟩
                 have hm33 : Mem w33 (restOf w0) ([(b107, .cells (cl u8 (blkOf G (BitVec.ofInt 64 (m : Int)) (blocksN b.length) b k)) 83 (0, 0)), (b11, .cells (cl u8 (blkOf G (BitVec.ofInt 64 (m : Int)) (blocksN b.length) b k)) 83 (0, 0)), (b70, .cells (cl u8 (markB G (BitVec.ofInt 64 (m : Int)) (placeF (blocksN b.length) k))) 5 (0, 0))] ++ (Ho ++ ([]))) := hm33
                 refine rw_c rfl (or_appendK (enc := (encA u8)) (k := 64) (Hs := Ho) (H := [(b107, .cells (cl u8 (blkOf G (BitVec.ofInt 64 (m : Int)) (blocksN b.length) b k)) 83 (0, 0)), (b11, .cells (cl u8 (blkOf G (BitVec.ofInt 64 (m : Int)) (blocksN b.length) b k)) 83 (0, 0)), (b70, .cells (cl u8 (markB G (BitVec.ofInt 64 (m : Int)) (placeF (blocksN b.length) k))) 5 (0, 0))]) (Mem.pick [_, _, _] Ho _ hm33) go rfl rfl (RdK.ofOne (enc := (encA u8)) (k := 64) (a := (blkOf G (BitVec.ofInt 64 (m : Int)) (blocksN b.length) b k)) hm33.h0 rfl (by simp only [encA, List.length_map]; first | omega | (simp only [List.length_set, List.length_append, List.length_replicate, List.length_map, List.length_cons, List.length_nil]; omega) | (simp; done) | (simp; omega) | decide)) uT40 uT40 ti83 rfl rfl (fun _ _ => encA_one u8_one _) sL sL) ?_
                 rintro sv34 w34 ⟨Hs34, hm34, g34⟩
                 replace g34 : GrowK (encA u8) 64 83 sv34 (lo ++ ([blkOf G (BitVec.ofInt 64 (m : Int)) (blocksN b.length) b k])) Hs34 := g34
                 refine rA rfl (v := sv34) rfl ?_
                 refine rw_nil (kBlk_normal (cw_region ?_))
                 refine rM rfl s8 <| rw_q rfl (ev_i64_add (b := 42) rfl rfl oM oM) <| rw_q rfl (ev_assign (v := (i64 (((42 * k : Nat) : Int) + 42))) rfl) <| rN ?_
                 have hm35 := Mem.drop ([(b107, .cells (cl u8 (blkOf G (BitVec.ofInt 64 (m : Int)) (blocksN b.length) b k)) 83 (0, 0))]) _ (Mem.pick Hs34 [_] _ hm34)
                 have hm36 := Mem.drop ([(b11, .cells (cl u8 (blkOf G (BitVec.ofInt 64 (m : Int)) (blocksN b.length) b k)) 83 (0, 0))]) _ (Mem.pick Hs34 [_] _ hm35)
                 have hm37 := Mem.drop ([(b70, .cells (cl u8 (markB G (BitVec.ofInt 64 (m : Int)) (placeF (blocksN b.length) k))) 5 (0, 0))]) _ (Mem.pick Hs34 [_] _ hm36)
                 exact ⟨⟨(k + 1), sv34, (lo ++ ([blkOf G (BitVec.ofInt 64 (m : Int)) (blocksN b.length) b k])), Hs34, oM, (by simp; omega), (by rw [hle]; exact blksK_S), g34, s0, s1, s2, s6, rfl, (Eq.trans rfl (congrArg i64 (by push_cast; omega))), hm37⟩, meas rfl z8 oM oM⟩
   · -- false
     have hb4p := of_decide_eq_false hb4
     refine rw_gyq (s := 21) rfl rfl hb4 rfl (ev_move s8) <| rw_gyq (s := 21) rfl rfl hb4 rfl (ev_i64_eql (b := 0) rfl rfl) <| rw_q rfl (ev_pick_fk rfl hb4 rfl) <| rN ?_
     refine cw_cond rfl (fun hc38 => ?_) (fun hc38 => ?_)
     · -- true
       have hc38p := eq_of_beq hc38
       refine cw_skip (kThen_normal (cw_seq (cw_block (cw_seq ?_))))
       have hkn : k < blocksN b.length := blocks_in0 (by have hz := eq_of_beq hc38; omega)
       have hn2 : blocksN b.length ≤ 2001 := by unfold blocksN; omega
       have hpl := partB_len b k
       have hli := last_iff hkn
       have hpi := placeI_le (n := blocksN b.length) (k := k)
       refine cw_region <| rM rfl s2 <| rM rfl s8 <| rw_q rfl (ev_slice_rd (i := ((42 * k : Nat) : Int)) (j := (b.length : Int)) (Rd.ofRest hb hm3) uT23 ti5 rfl (optI_some (k := .i64) (i := ((42 * k : Nat) : Int)) rfl) (optI_none _ _) oM sL sL) <| rw_q rfl (ev_assign (v := (subv vb ((42 * k : Nat) : Int) (b.length : Int))) rfl) ?_
       refine rN (sR ?_)
       refine rw_q rfl (ev_move (v := (subv vb ((42 * k : Nat) : Int) (b.length : Int))) rfl) <| rw_q (v := (i64 (((b.drop (((42 * k : Nat) : Int) : Int).toNat).take (((b.length : Int) : Int).toNat - (((42 * k : Nat) : Int) : Int).toNat)).length : Int))) rfl (ev_len_rd (Rd.cast (l' := (b.drop (((42 * k : Nat) : Int) : Int).toNat).take (((b.length : Int) : Int).toNat - (((42 * k : Nat) : Int) : Int).toNat)) (Rd.sub (Rd.ofRest hb hm3) oM sL sL) rfl) uT23 rfl) <| rw_q rfl (ev_i64_leq (b := 42) rfl rfl) <| rA rfl rfl ?_
       refine rN (cw_seq (sR ?_))
       refine rM rfl rfl <| rw_q rfl (ev_not rfl) <| rN ?_
       refine CW.abs (fun g => g 0 = (i64 (G.toNat : Int)) ∧ g 1 = (i64 (m : Int)) ∧ g 2 = vb ∧ g 6 = (Value.slice none 0 0) ∧ g 7 = vo ∧ g 8 = (i64 ((42 * k : Nat) : Int)) ∧ g 9 = (subv vb ((42 * k : Nat) : Int) (b.length : Int)) ∧ g 10 = (bl (decide ((((b.drop (((42 * k : Nat) : Int) : Int).toNat).take (((b.length : Int) : Int).toNat - (((42 * k : Nat) : Int) : Int).toNat)).length : Int) ≤ 42))) ∧ g 24 = (bl (((42 * k : Nat) : Int) == 0)) ∧ g 34 = (bl (!(decide ((((b.drop (((42 * k : Nat) : Int) : Int).toNat).take (((b.length : Int) : Int).toNat - (((42 * k : Nat) : Int) : Int).toNat)).length : Int) ≤ 42)))) ∧ True) ⟨s0, s1, s2, s6, s7, s8, rfl, rfl, rfl, rfl, trivial⟩ ?_
       rintro fr39 ⟨s0, s1, s2, s6, s7, s8, s9, s10, s24, s34, _⟩
       refine cw_meet (J := fun g wv => ∃ (vq : Value), (Rd (blks w0) u8 vq (partB b k)) ∧ g 0 = (i64 (G.toNat : Int)) ∧ g 1 = (i64 (m : Int)) ∧ g 2 = vb ∧ g 6 = (Value.slice none 0 0) ∧ g 7 = vo ∧ g 8 = (i64 ((42 * k : Nat) : Int)) ∧ g 9 = vq ∧ g 10 = (bl (decide ((((b.drop (((42 * k : Nat) : Int) : Int).toNat).take (((b.length : Int) : Int).toNat - (((42 * k : Nat) : Int) : Int).toNat)).length : Int) ≤ 42))) ∧ g 24 = (bl (((42 * k : Nat) : Int) == 0)) ∧ g 34 = (bl (!(decide ((((b.drop (((42 * k : Nat) : Int) : Int).toNat).take (((b.length : Int) : Int).toNat - (((42 * k : Nat) : Int) : Int).toNat)).length : Int) ≤ 42)))) ∧ Mem wv (restOf w0) (Ho ++ ([]))) ?_ ?_
       · skip
         refine cw_cond s34 (fun hc40 => ?_) (fun hc40 => ?_)
         · -- true
           have hc40n : (decide ((((b.drop (((42 * k : Nat) : Int) : Int).toNat).take (((b.length : Int) : Int).toNat - (((42 * k : Nat) : Int) : Int).toNat)).length : Int) ≤ 42)) = false := by simpa using hc40
           have hc40p := of_decide_eq_false hc40n
           refine cw_region <| rM rfl s9 <| rw_q rfl (ev_slice_rd (i := 0) (j := 42) (Rd.cast (l' := (b.drop (((42 * k : Nat) : Int) : Int).toNat).take (((b.length : Int) : Int).toNat - (((42 * k : Nat) : Int) : Int).toNat)) (Rd.sub (Rd.ofRest hb hm3) oM sL sL) rfl) uT23 ti5 rfl (optI_none _ _) (optI_some (k := .i64) (i := 42) rfl) oM sL sL) <| rw_q rfl (ev_assign (v := (subv (subv vb ((42 * k : Nat) : Int) (b.length : Int)) 0 42)) rfl) <| rN ?_
           exact ⟨(subv (subv vb ((42 * k : Nat) : Int) (b.length : Int)) 0 42), (Rd.cast (l' := partB b k) (Rd.cast (l' := (((b.drop (((42 * k : Nat) : Int) : Int).toNat).take (((b.length : Int) : Int).toNat - (((42 * k : Nat) : Int) : Int).toNat)).drop 0).take 42) (Rd.sub (Rd.cast (l' := (b.drop (((42 * k : Nat) : Int) : Int).toNat).take (((b.length : Int) : Int).toNat - (((42 * k : Nat) : Int) : Int).toNat)) (Rd.sub (Rd.ofRest hb hm0) oM sL sL) rfl) oM sL sL) rfl) (by rw [part_all]; unfold partB; simp)), s0, s1, s2, s6, s7, s8, rfl, s10, s24, s34, hm3⟩
         · -- false
           have hc40n : (decide ((((b.drop (((42 * k : Nat) : Int) : Int).toNat).take (((b.length : Int) : Int).toNat - (((42 * k : Nat) : Int) : Int).toNat)).length : Int) ≤ 42)) = true := by simpa using hc40
           have hc40p := of_decide_eq_true hc40n
           refine cw_skip (kThen_normal ?_)
           exact ⟨(subv vb ((42 * k : Nat) : Int) (b.length : Int)), (Rd.cast (l' := partB b k) (Rd.cast (l' := (b.drop (((42 * k : Nat) : Int) : Int).toNat).take (((b.length : Int) : Int).toNat - (((42 * k : Nat) : Int) : Int).toNat)) (Rd.sub (Rd.ofRest hb hm0) oM sL sL) rfl) (part_last (by simpa using hc40))), s0, s1, s2, s6, s7, s8, s9, s10, s24, s34, hm3⟩
       · rintro fr41 w42 ⟨vq, hvq, s0, s1, s2, s6, s7, s8, s9, s10, s24, s34, hm42⟩
         refine sR <| rw_q rfl (ev_build_arr (ps := []) (c := (cl u8 (List.replicate 64 0))) ti83 uT83 ti5 (by simp) rfl) <| rw_c rfl (or_alloc_agg hm42 ti83) ?_
         rintro _ w43 ⟨b11_1, rfl, _ew43, hm43⟩
         refine rw_n (or_store_agg (f := u8) (l := List.replicate 64 0) u8_one ti83 rfl rfl sL hm43.h0 (by rw [size_cl]; first | omega | (simp only [List.length_set, List.length_append, List.length_replicate, List.length_map, List.length_cons, List.length_nil]; omega) | (simp; done) | (simp; omega) | decide) rfl) ?_
         rintro _ w44 uq44
         have hm44 := hm43.upd0 uq44
         refine rN (sR ?_)
         refine rM rfl s7 <| rw_q (v := (i64 (lo.length : Int))) rfl (ev_len_rk (go.rd (Mem.pick [_] Ho _ hm44)) uT40 rfl) <| rw_q rfl (ev_assign (v := (i64 (lo.length : Int))) rfl) ?_
         refine rN (cw_seq (sR ?_))
         refine rM rfl s10 <| rN ?_
         refine cw_meet (J := fun g wv => g 0 = (i64 (G.toNat : Int)) ∧ g 1 = (i64 (m : Int)) ∧ g 2 = vb ∧ g 6 = (Value.slice none 0 0) ∧ g 7 = vo ∧ g 8 = (i64 ((42 * k : Nat) : Int)) ∧ g 9 = vq ∧ g 10 = (bl (decide ((((b.drop (((42 * k : Nat) : Int) : Int).toNat).take (((b.length : Int) : Int).toNat - (((42 * k : Nat) : Int) : Int).toNat)).length : Int) ≤ 42))) ∧ g 11 = (ptr b11_1 0) ∧ g 12 = (i64 (placeI (blocksN b.length) k)) ∧ g 24 = (bl (((42 * k : Nat) : Int) == 0)) ∧ g 34 = (bl (!(decide ((((b.drop (((42 * k : Nat) : Int) : Int).toNat).take (((b.length : Int) : Int).toNat - (((42 * k : Nat) : Int) : Int).toNat)).length : Int) ≤ 42)))) ∧ g 40 = (bl (decide ((((b.drop (((42 * k : Nat) : Int) : Int).toNat).take (((b.length : Int) : Int).toNat - (((42 * k : Nat) : Int) : Int).toNat)).length : Int) ≤ 42))) ∧ Mem wv (restOf w0) ([(b11_1, .cells (cl u8 (List.replicate 64 0)) 83 (0, 0))] ++ (Ho ++ ([])))) ?_ ?_
         · skip
           refine cw_cond rfl (fun hc45 => ?_) (fun hc45 => ?_)
           · -- true
             have hc45p := of_decide_eq_true hc45
             refine cw_region <| rw_q rfl (ev_move (v := (i64 (lo.length : Int))) rfl) <| rw_q rfl (ev_i64_add (b := 32768) rfl rfl oM oM) <| rw_q rfl (ev_assign (v := (i64 ((lo.length : Int) + 32768))) rfl) <| rN ?_
             exact ⟨s0, s1, s2, s6, s7, s8, s9, s10, rfl, (Eq.trans rfl (congrArg i64 (by rw [hlo]; exact placeI_t (hli.1 (of_decide_eq_true hc45))))), s24, s34, rfl, hm44⟩
           · -- false
             have hc45p := of_decide_eq_false hc45
             refine cw_skip (kThen_normal ?_)
             exact ⟨s0, s1, s2, s6, s7, s8, s9, s10, rfl, (Eq.trans rfl (congrArg i64 (by rw [hlo]; exact placeI_f (fun h => (of_decide_eq_false hc45) (hli.2 h))))), s24, s34, rfl, hm44⟩
         · rintro fr46 w47 ⟨s0, s1, s2, s6, s7, s8, s9, s10, s11, s12, s24, s34, s40, hm47⟩
           refine sR <| rM rfl s0 <| rw_q rfl (ev_i64_shrK (p := 16777216) (b := 24) rfl rfl rfl (by decide) (by decide)) <| rw_q rfl (ev_conv_i64_u8 ⟨_, uT3⟩ uT5 rfl) <| rM rfl s0 <| rw_q rfl (ev_i64_shrK (p := 65536) (b := 16) rfl rfl rfl (by decide) (by decide)) ?_
           refine rw_q rfl (ev_conv_i64_u8 ⟨_, uT3⟩ uT5 rfl) <| rM rfl s0 <| rw_q rfl (ev_i64_shrK (p := 256) (b := 8) rfl rfl rfl (by decide) (by decide)) <| rw_q rfl (ev_conv_i64_u8 ⟨_, uT3⟩ uT5 rfl) <| rM rfl s0 <| rw_q rfl (ev_conv_i64_u8 ⟨_, uT3⟩ uT5 rfl) ?_
           refine rM rfl s1 <| rw_q rfl (ev_i64_shrK (p := 16777216) (b := 24) rfl rfl rfl (by decide) (by decide)) <| rw_q rfl (ev_conv_i64_u8 ⟨_, uT3⟩ uT5 rfl) <| rM rfl s1 <| rw_q rfl (ev_i64_shrK (p := 65536) (b := 16) rfl rfl rfl (by decide) (by decide)) <| rw_q rfl (ev_conv_i64_u8 ⟨_, uT3⟩ uT5 rfl) ?_
           refine rM rfl s1 <| rw_q rfl (ev_i64_shrK (p := 256) (b := 8) rfl rfl rfl (by decide) (by decide)) <| rw_q rfl (ev_conv_i64_u8 ⟨_, uT3⟩ uT5 rfl) <| rM rfl s1 <| rw_q rfl (ev_conv_i64_u8 ⟨_, uT3⟩ uT5 rfl) <| rM rfl s12 ?_
           refine rw_q rfl (ev_i64_shrK (p := 256) (b := 8) rfl rfl rfl (by decide) (by decide)) <| rw_q rfl (ev_conv_i64_u8 ⟨_, uT3⟩ uT5 rfl) <| rM rfl s12 <| rw_q rfl (ev_conv_i64_u8 ⟨_, uT3⟩ uT5 rfl) <| rw_c rfl (or_buildSlice_cl u8 [BitVec.ofInt 8 ((G.toNat : Int) / 16777216), BitVec.ofInt 8 ((G.toNat : Int) / 65536), BitVec.ofInt 8 ((G.toNat : Int) / 256), BitVec.ofInt 8 (G.toNat : Int), BitVec.ofInt 8 ((m : Int) / 16777216), BitVec.ofInt 8 ((m : Int) / 65536), BitVec.ofInt 8 ((m : Int) / 256), BitVec.ofInt 8 (m : Int), BitVec.ofInt 8 ((placeI (blocksN b.length) k) / 256), BitVec.ofInt 8 (placeI (blocksN b.length) k)] u8_one hm47 uT23 ti5 rfl rfl rfl) ?_
           rintro _ w48 ⟨b70_1, rfl, _ew48, hm48⟩
           refine rw_q rfl (ev_assign (v := (slc b70_1 0 10 10)) rfl) ?_
           have hx49 : [BitVec.ofInt 8 ((G.toNat : Int) / 16777216), BitVec.ofInt 8 ((G.toNat : Int) / 65536), BitVec.ofInt 8 ((G.toNat : Int) / 256), BitVec.ofInt 8 (G.toNat : Int), BitVec.ofInt 8 ((m : Int) / 16777216), BitVec.ofInt 8 ((m : Int) / 65536), BitVec.ofInt 8 ((m : Int) / 256), BitVec.ofInt 8 (m : Int), BitVec.ofInt 8 ((placeI (blocksN b.length) k) / 256), BitVec.ofInt 8 (placeI (blocksN b.length) k)] = (markB G (BitVec.ofInt 64 (m : Int)) (placeF (blocksN b.length) k)) := mark_doc oM oM
           have hm50 : Mem w48 (restOf w0) ([(b70_1, .cells (cl u8 (markB G (BitVec.ofInt 64 (m : Int)) (placeF (blocksN b.length) k))) 5 (0, 0)), (b11_1, .cells (cl u8 (List.replicate 64 0)) 83 (0, 0))] ++ (Ho ++ ([]))) := by rw [← hx49]; exact hm48
           refine rN ?_
           refine CW.abs (fun g => g 0 = (i64 (G.toNat : Int)) ∧ g 1 = (i64 (m : Int)) ∧ g 2 = vb ∧ g 6 = (Value.slice none 0 0) ∧ g 7 = vo ∧ g 8 = (i64 ((42 * k : Nat) : Int)) ∧ g 9 = vq ∧ g 10 = (bl (decide ((((b.drop (((42 * k : Nat) : Int) : Int).toNat).take (((b.length : Int) : Int).toNat - (((42 * k : Nat) : Int) : Int).toNat)).length : Int) ≤ 42))) ∧ g 11 = (ptr b11_1 0) ∧ g 12 = (i64 (placeI (blocksN b.length) k)) ∧ g 13 = (slc b70_1 0 10 10) ∧ g 24 = (bl (((42 * k : Nat) : Int) == 0)) ∧ g 34 = (bl (!(decide ((((b.drop (((42 * k : Nat) : Int) : Int).toNat).take (((b.length : Int) : Int).toNat - (((42 * k : Nat) : Int) : Int).toNat)).length : Int) ≤ 42)))) ∧ g 40 = (bl (decide ((((b.drop (((42 * k : Nat) : Int) : Int).toNat).take (((b.length : Int) : Int).toNat - (((42 * k : Nat) : Int) : Int).toNat)).length : Int) ≤ 42))) ∧ True) ⟨s0, s1, s2, s6, s7, s8, s9, s10, s11, s12, rfl, s24, s34, s40, trivial⟩ ?_
           rintro fr51 ⟨s0, s1, s2, s6, s7, s8, s9, s10, s11, s12, s13, s24, s34, s40, _⟩
           refine cw_seq (sR ?_)
           refine rw_q rfl (ev_assign (v := (i64 0)) rfl) ?_
           refine rN (cw_block ?_)
           refine cw_loop (fun g wv => ∃ (i : Nat), ((i : Int) ≤ 10) ∧ ((stampK (markB G (BitVec.ofInt 64 (m : Int)) (placeF (blocksN b.length) k)) i).length = 64) ∧ g 0 = (i64 (G.toNat : Int)) ∧ g 1 = (i64 (m : Int)) ∧ g 2 = vb ∧ g 6 = (Value.slice none 0 0) ∧ g 7 = vo ∧ g 8 = (i64 ((42 * k : Nat) : Int)) ∧ g 9 = vq ∧ g 10 = (bl (decide ((((b.drop (((42 * k : Nat) : Int) : Int).toNat).take (((b.length : Int) : Int).toNat - (((42 * k : Nat) : Int) : Int).toNat)).length : Int) ≤ 42))) ∧ g 11 = (ptr b11_1 0) ∧ g 12 = (i64 (placeI (blocksN b.length) k)) ∧ g 13 = (slc b70_1 0 10 10) ∧ g 14 = (i64 (i : Int)) ∧ g 24 = (bl (((42 * k : Nat) : Int) == 0)) ∧ g 34 = (bl (!(decide ((((b.drop (((42 * k : Nat) : Int) : Int).toNat).take (((b.length : Int) : Int).toNat - (((42 * k : Nat) : Int) : Int).toNat)).length : Int) ≤ 42)))) ∧ g 40 = (bl (decide ((((b.drop (((42 * k : Nat) : Int) : Int).toNat).take (((b.length : Int) : Int).toNat - (((42 * k : Nat) : Int) : Int).toNat)).length : Int) ≤ 42))) ∧ Mem wv (restOf w0) ([(b11_1, .cells (cl u8 (stampK (markB G (BitVec.ofInt 64 (m : Int)) (placeF (blocksN b.length) k)) i)) 83 (0, 0)), (b70_1, .cells (cl u8 (markB G (BitVec.ofInt 64 (m : Int)) (placeF (blocksN b.length) k))) 5 (0, 0))] ++ (Ho ++ ([])))) (fun g wv => (10 - RowKit.intOf (g 14)).toNat) ?_ ?_
           have hm52 := (Mem.pick [_, _] Ho _ hm50)
           have hm53 := (Mem.pick Ho [_] _ hm52)
           have hm54 := (Mem.pick2 [_] Ho [_] _ hm53)
           · exact ⟨0, oM, (stampK_len _), s0, s1, s2, s6, s7, s8, s9, s10, s11, s12, s13, rfl, s24, s34, s40, hm54⟩
           · rintro fr55 w56 ⟨i, hi, hst, s0, s1, s2, s6, s7, s8, s9, s10, s11, s12, s13, s14, s24, s34, s40, hm56⟩
             have z14 := s14
             refine cw_seq (sR ?_)
             refine rM rfl s14 <| rw_q rfl (ev_i64_lss (b := 10) rfl rfl) <| rN ?_
             refine cw_cond rfl (fun hc57 => ?_) (fun hc57 => ?_)
             · -- true
               have hc57p := of_decide_eq_true hc57
               refine cw_skip (kThen_normal (cw_seq (cw_block (sR ?_))))
               refine rM rfl s14 <| rM rfl s13 <| rM rfl s14 <| rw_q rfl (ev_ia_slc (r := i) oM uT23 ti5 rfl rfl oM sL) <| rw_q (v := (u8 ((markB G (BitVec.ofInt 64 (m : Int)) (placeF (blocksN b.length) k)).getD i 0))) rfl (ev_load1 uT5 rfl rfl hm56.h1 (get_clD _ _ 0 sL)) <| rw_q rfl (ev_ia_arr (r := i) oM uT83 ti5 s11 rfl oM sL) ?_
               refine rw_n (or_store_cl (f := u8) (a := (markB G (BitVec.ofInt 64 (m : Int)) (placeF (blocksN b.length) k)).getD i 0) u8_one ti5 rfl rfl hm56.h0 sL (.inl (Nat.zero_le _))) ?_
               rintro _ w58 uq58
               have hm58 := hm56.upd0 uq58
               refine rN (cw_region ?_)
               refine rM rfl s14 <| rw_q rfl (ev_i64_add (a := 54) rfl rfl oM oM) <| rM rfl s13 <| rM rfl s14 <| rw_q rfl (ev_ia_slc (r := i) oM uT23 ti5 rfl rfl oM sL) <| rw_q (v := (u8 ((markB G (BitVec.ofInt 64 (m : Int)) (placeF (blocksN b.length) k)).getD i 0))) rfl (ev_load1 uT5 rfl rfl hm58.h1 (get_clD _ _ 0 sL)) ?_
               refine rw_q rfl (ev_ia_arr (r := (54 + (i : Int) : Int).toNat) oM uT83 ti5 s11 rfl oM sL) <| rw_n (or_store_cl (f := u8) (a := (markB G (BitVec.ofInt 64 (m : Int)) (placeF (blocksN b.length) k)).getD i 0) u8_one ti5 rfl rfl hm58.h0 sL (.inl (Nat.zero_le _))) ?_
               rintro _ w59 uq59
               have hm59 := hm58.upd0 uq59
               refine rw_nil (kBlk_normal (cw_region ?_))
               refine rM rfl s14 <| rw_q rfl (ev_i64_add (b := 1) rfl rfl oM oM) <| rw_q rfl (ev_assign (v := (i64 ((i : Int) + 1))) rfl) <| rN ?_
               exact ⟨⟨(i + 1), oM, (stampK_len _), s0, s1, s2, s6, s7, s8, s9, s10, s11, s12, s13, rfl, s24, s34, s40, hm59⟩, meas (rfl) z14 oM oM⟩
             · -- false
               have hc57p := of_decide_eq_false hc57
               refine cw_exit ?_
               refine kThen_exit (kThen_exit (kBlk_hit ?_))
               refine sR <| rM rfl s9 <| rw_q (v := (i64 ((partB b k).length : Int))) rfl (ev_len_rd (Rd.ofRest hvq hm56) uT23 rfl) <| rw_q rfl (ev_conv_i64_u8 ⟨_, uT3⟩ uT5 rfl) <| rw_q rfl (ev_ia_arr (r := 11) (i := 11) oM uT83 ti5 s11 rfl oM oM) <| rw_n (or_store_cl (f := u8) (a := BitVec.ofInt 8 ((partB b k).length : Int)) u8_one ti5 rfl rfl hm56.h0 sL (.inl (Nat.zero_le _))) ?_
               rintro _ w60 uq60
               have hm60 := hm56.upd0 uq60
               refine rN (cw_seq (sR ?_))
               refine rw_q rfl (ev_assign (v := (i64 0)) rfl) ?_
               refine rN (cw_block ?_)
               refine cw_loop (fun g wv => ∃ (i2 : Nat), ((i2 : Int) ≤ ((partB b k).length : Int)) ∧ ((fillK ((stampK (markB G (BitVec.ofInt 64 (m : Int)) (placeF (blocksN b.length) k)) i).set 11 (BitVec.ofInt 8 ((partB b k).length : Int))) (partB b k) i2).length = 64) ∧ g 0 = (i64 (G.toNat : Int)) ∧ g 1 = (i64 (m : Int)) ∧ g 2 = vb ∧ g 6 = (Value.slice none 0 0) ∧ g 7 = vo ∧ g 8 = (i64 ((42 * k : Nat) : Int)) ∧ g 9 = vq ∧ g 10 = (bl (decide ((((b.drop (((42 * k : Nat) : Int) : Int).toNat).take (((b.length : Int) : Int).toNat - (((42 * k : Nat) : Int) : Int).toNat)).length : Int) ≤ 42))) ∧ g 11 = (ptr b11_1 0) ∧ g 12 = (i64 (placeI (blocksN b.length) k)) ∧ g 13 = (slc b70_1 0 10 10) ∧ g 14 = (i64 (i : Int)) ∧ g 15 = (i64 (i2 : Int)) ∧ g 24 = (bl (((42 * k : Nat) : Int) == 0)) ∧ g 34 = (bl (!(decide ((((b.drop (((42 * k : Nat) : Int) : Int).toNat).take (((b.length : Int) : Int).toNat - (((42 * k : Nat) : Int) : Int).toNat)).length : Int) ≤ 42)))) ∧ g 40 = (bl (decide ((((b.drop (((42 * k : Nat) : Int) : Int).toNat).take (((b.length : Int) : Int).toNat - (((42 * k : Nat) : Int) : Int).toNat)).length : Int) ≤ 42))) ∧ g 72 = (bl (decide ((i : Int) < 10))) ∧ Mem wv (restOf w0) ([(b11_1, .cells (cl u8 (fillK ((stampK (markB G (BitVec.ofInt 64 (m : Int)) (placeF (blocksN b.length) k)) i).set 11 (BitVec.ofInt 8 ((partB b k).length : Int))) (partB b k) i2)) 83 (0, 0)), (b70_1, .cells (cl u8 (markB G (BitVec.ofInt 64 (m : Int)) (placeF (blocksN b.length) k))) 5 (0, 0))] ++ (Ho ++ ([])))) (fun g wv => (((partB b k).length : Int) - RowKit.intOf (g 15)).toNat) ?_ ?_
               · exact ⟨0, oM, (by rw [fillK_len, List.length_set, stampK_len]), s0, s1, s2, s6, s7, s8, s9, s10, s11, s12, s13, s14, rfl, s24, s34, s40, rfl, hm60⟩
               · rintro fr61 w62 ⟨i2, hi2, hft, s0, s1, s2, s6, s7, s8, s9, s10, s11, s12, s13, s14, s15, s24, s34, s40, s72, hm62⟩
                 have z15 := s15
                 refine cw_seq (sR ?_)
                 refine rM rfl s15 <| rM rfl s9 <| rw_q (v := (i64 ((partB b k).length : Int))) rfl (ev_len_rd (Rd.ofRest hvq hm62) uT23 rfl) <| rw_q rfl (ev_i64_lss rfl rfl) <| rN ?_
                 refine cw_cond rfl (fun hc63 => ?_) (fun hc63 => ?_)
                 · -- true
                   have hc63p := of_decide_eq_true hc63
                   refine cw_skip (kThen_normal (cw_seq (cw_block (cw_region ?_))))
                   refine rM rfl s15 <| rw_q rfl (ev_i64_add (a := 12) rfl rfl oM oM) <| rM rfl s9 <| rM rfl s15 <| rw_q rfl (ev_indexAddr_rdv (Rd.ofRest hvq hm62) uT23 ti5 rfl rfl oM sL) <| rw_q (v := (u8 ((partB b k).getD i2 0))) rfl (ev_load_rdD (l := (partB b k)) (i := (i2 : Int)) (dflt := 0) (Rd.ofRest hvq hm62) uT5 rfl oM sL rfl) ?_
                   refine rw_q rfl (ev_ia_arr (r := (12 + (i2 : Int) : Int).toNat) oM uT83 ti5 s11 rfl oM sL) <| rw_n (or_store_cl (f := u8) (a := (partB b k).getD i2 0) u8_one ti5 rfl rfl hm62.h0 sL (.inl (Nat.zero_le _))) ?_
                   rintro _ w64 uq64
                   have hm64 := hm62.upd0 uq64
                   refine rw_nil (kBlk_normal (cw_region ?_))
                   refine rM rfl s15 <| rw_q rfl (ev_i64_add (b := 1) rfl rfl oM oM) <| rw_q rfl (ev_assign (v := (i64 ((i2 : Int) + 1))) rfl) <| rN ?_
                   exact ⟨⟨(i2 + 1), oM, (by rw [fillK_len, List.length_set, stampK_len]), s0, s1, s2, s6, s7, s8, s9, s10, s11, s12, s13, s14, rfl, s24, s34, s40, s72, hm64⟩, meas (rfl) z15 oM oM⟩
                 · -- false
                   have hc63p := of_decide_eq_false hc63
                   have hx65 : fillK ((stampK (markB G (BitVec.ofInt 64 (m : Int)) (placeF (blocksN b.length) k)) i).set 11 (BitVec.ofInt 8 ((partB b k).length : Int))) (partB b k) i2 = blkOf G (BitVec.ofInt 64 (m : Int)) (blocksN b.length) b k := (doc_raw (markB_len _ _ _) hpl oM oM).trans blk_fold
                   have hm66 : Mem w62 (restOf w0) ([(b11_1, .cells (cl u8 (blkOf G (BitVec.ofInt 64 (m : Int)) (blocksN b.length) b k)) 83 (0, 0)), (b70_1, .cells (cl u8 (markB G (BitVec.ofInt 64 (m : Int)) (placeF (blocksN b.length) k))) 5 (0, 0))] ++ (Ho ++ ([]))) := by rw [← hx65]; exact hm62
                   refine cw_exit ?_
                   refine kThen_exit (kThen_exit (kBlk_hit ?_))
                   refine cw_region <| rM rfl s7 <| rw_q (v := (agg u8 (blkOf G (BitVec.ofInt 64 (m : Int)) (blocksN b.length) b k))) rfl (ev_loadA uT83 rfl ti83 s11 hm66.h0 (by rw [size_cl]; first | omega | (simp only [List.length_set, List.length_append, List.length_replicate, List.length_map, List.length_cons, List.length_nil]; omega) | (simp; done) | (simp; omega) | decide)) <| rw_c rfl (or_buildSlice_k1 (cs := (cl u8 (blkOf G (BitVec.ofInt 64 (m : Int)) (blocksN b.length) b k))) hm66 uT40 ti83 rfl rfl rfl (by rw [size_cl]; first | omega | (simp only [List.length_set, List.length_append, List.length_replicate, List.length_map, List.length_cons, List.length_nil]; omega) | (simp; done) | (simp; omega) | decide)) ?_
                   rintro _ w67 ⟨b107_1, rfl, _ew67, hm67⟩
                   have hm67 : Mem w67 (restOf w0) ([(b107_1, .cells (cl u8 (blkOf G (BitVec.ofInt 64 (m : Int)) (blocksN b.length) b k)) 83 (0, 0)), (b11_1, .cells (cl u8 (blkOf G (BitVec.ofInt 64 (m : Int)) (blocksN b.length) b k)) 83 (0, 0)), (b70_1, .cells (cl u8 (markB G (BitVec.ofInt 64 (m : Int)) (placeF (blocksN b.length) k))) 5 (0, 0))] ++ (Ho ++ ([]))) := hm67
                   refine rw_c rfl (or_appendK (enc := (encA u8)) (k := 64) (Hs := Ho) (H := [(b107_1, .cells (cl u8 (blkOf G (BitVec.ofInt 64 (m : Int)) (blocksN b.length) b k)) 83 (0, 0)), (b11_1, .cells (cl u8 (blkOf G (BitVec.ofInt 64 (m : Int)) (blocksN b.length) b k)) 83 (0, 0)), (b70_1, .cells (cl u8 (markB G (BitVec.ofInt 64 (m : Int)) (placeF (blocksN b.length) k))) 5 (0, 0))]) (Mem.pick [_, _, _] Ho _ hm67) go rfl rfl (RdK.ofOne (enc := (encA u8)) (k := 64) (a := (blkOf G (BitVec.ofInt 64 (m : Int)) (blocksN b.length) b k)) hm67.h0 rfl (by simp only [encA, List.length_map]; first | omega | (simp only [List.length_set, List.length_append, List.length_replicate, List.length_map, List.length_cons, List.length_nil]; omega) | (simp; done) | (simp; omega) | decide)) uT40 uT40 ti83 rfl rfl (fun _ _ => encA_one u8_one _) sL sL) ?_
                   rintro sv68 w68 ⟨Hs68, hm68, g68⟩
                   replace g68 : GrowK (encA u8) 64 83 sv68 (lo ++ ([blkOf G (BitVec.ofInt 64 (m : Int)) (blocksN b.length) b k])) Hs68 := g68
                   refine rA rfl (v := sv68) rfl ?_
                   refine rw_nil (kBlk_normal (cw_region ?_))
                   refine rM rfl s8 <| rw_q rfl (ev_i64_add (b := 42) rfl rfl oM oM) <| rw_q rfl (ev_assign (v := (i64 (((42 * k : Nat) : Int) + 42))) rfl) <| rN ?_
                   have hm69 := Mem.drop ([(b107_1, .cells (cl u8 (blkOf G (BitVec.ofInt 64 (m : Int)) (blocksN b.length) b k)) 83 (0, 0))]) _ (Mem.pick Hs68 [_] _ hm68)
                   have hm70 := Mem.drop ([(b11_1, .cells (cl u8 (blkOf G (BitVec.ofInt 64 (m : Int)) (blocksN b.length) b k)) 83 (0, 0))]) _ (Mem.pick Hs68 [_] _ hm69)
                   have hm71 := Mem.drop ([(b70_1, .cells (cl u8 (markB G (BitVec.ofInt 64 (m : Int)) (placeF (blocksN b.length) k))) 5 (0, 0))]) _ (Mem.pick Hs68 [_] _ hm70)
                   exact ⟨⟨(k + 1), sv68, (lo ++ ([blkOf G (BitVec.ofInt 64 (m : Int)) (blocksN b.length) b k])), Hs68, oM, (by simp; omega), (by rw [hle]; exact blksK_S), g68, s0, s1, s2, s6, rfl, (Eq.trans rfl (congrArg i64 (by push_cast; omega))), hm71⟩, meas rfl z8 oM oM⟩
     · -- false
       have hc38p := ne_of_beq_false hc38
       refine cw_exit ?_
       refine kThen_exit (kThen_exit (kBlk_hit ?_))
       refine sR <| rM rfl s7 <| rA rfl (v := vo) rfl ?_
       refine rN (cw_ret ?_)
       refine fnPost_ret [vo] ⟨rfl, trivial⟩ ?_
       have hke := blocks_exit (n := b.length) (k := k) (of_decide_eq_false hb4) (by have hz := hc38p; omega) oM
       exact ⟨Ho, GrowK.cast go (by rw [hle]; exact blksK_D hke), by simpa using hm3⟩

end Go.Proofs.Ytfbnhoolkajebaa
