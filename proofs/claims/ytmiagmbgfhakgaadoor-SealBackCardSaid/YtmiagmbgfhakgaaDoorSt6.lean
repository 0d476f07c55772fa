/- Plain laws of the stream, and the document's turner. Conditions: none beyond those that each theorem states. -/
import Derived.Test.YtmiagmbgfhakgaaDoorSt5
import Derived.Test.YtmiagmbgfhakgaaDoorSt3
namespace Go.Proofs.YtmiagmbgfhakgaaDoor
set_option linter.unusedVariables false
set_option linter.unusedSimpArgs false

theorem rot16 (x : BitVec 32) : rotl32 x 16 = left3 x 16 := rfl
theorem rot12 (x : BitVec 32) : rotl32 x 12 = left3 x 12 := rfl
theorem rot8 (x : BitVec 32) : rotl32 x 8 = left3 x 8 := rfl
theorem rot7 (x : BitVec 32) : rotl32 x 7 = left3 x 7 := rfl
theorem quarter_ext (r r' : BitVec 32 → Int → BitVec 32) (h16 : ∀ x, r x 16 = r' x 16) (h12 : ∀ x, r x 12 = r' x 12) (h8 : ∀ x, r x 8 = r' x 8) (h7 : ∀ x, r x 7 = r' x 7) (a b c d : BitVec 32) : quarterL r a b c d = quarterL r' a b c d := by
  simp only [quarterL, h16, h12, h8, h7]
theorem quarter_same (a b c d : BitVec 32) : quarterL rotl32 a b c d = quarterL left3 a b c d := quarter_ext _ _ rot16 rot12 rot8 rot7 a b c d
def qAtG (Q : BitVec 32 → BitVec 32 → BitVec 32 → BitVec 32 → List (BitVec 32)) (s : List (BitVec 32)) (i0 i1 i2 i3 : Nat) : List (BitVec 32) :=
  let q := Q (s.getD i0 0) (s.getD i1 0) (s.getD i2 0) (s.getD i3 0)
  (((s.set i0 (q.getD 0 0)).set i1 (q.getD 1 0)).set i2 (q.getD 2 0)).set i3 (q.getD 3 0)
theorem qA0 (Q : BitVec 32 → BitVec 32 → BitVec 32 → BitVec 32 → List (BitVec 32)) (a0 a1 a2 a3 a4 a5 a6 a7 a8 a9 a10 a11 a12 a13 a14 a15 : BitVec 32) : qAtG Q [a0, a1, a2, a3, a4, a5, a6, a7, a8, a9, a10, a11, a12, a13, a14, a15] 0 4 8 12 = [(Q a0 a4 a8 a12).getD 0 0, a1, a2, a3, (Q a0 a4 a8 a12).getD 1 0, a5, a6, a7, (Q a0 a4 a8 a12).getD 2 0, a9, a10, a11, (Q a0 a4 a8 a12).getD 3 0, a13, a14, a15] := rfl
theorem qA1 (Q : BitVec 32 → BitVec 32 → BitVec 32 → BitVec 32 → List (BitVec 32)) (a0 a1 a2 a3 a4 a5 a6 a7 a8 a9 a10 a11 a12 a13 a14 a15 : BitVec 32) : qAtG Q [a0, a1, a2, a3, a4, a5, a6, a7, a8, a9, a10, a11, a12, a13, a14, a15] 1 5 9 13 = [a0, (Q a1 a5 a9 a13).getD 0 0, a2, a3, a4, (Q a1 a5 a9 a13).getD 1 0, a6, a7, a8, (Q a1 a5 a9 a13).getD 2 0, a10, a11, a12, (Q a1 a5 a9 a13).getD 3 0, a14, a15] := rfl
theorem qA2 (Q : BitVec 32 → BitVec 32 → BitVec 32 → BitVec 32 → List (BitVec 32)) (a0 a1 a2 a3 a4 a5 a6 a7 a8 a9 a10 a11 a12 a13 a14 a15 : BitVec 32) : qAtG Q [a0, a1, a2, a3, a4, a5, a6, a7, a8, a9, a10, a11, a12, a13, a14, a15] 2 6 10 14 = [a0, a1, (Q a2 a6 a10 a14).getD 0 0, a3, a4, a5, (Q a2 a6 a10 a14).getD 1 0, a7, a8, a9, (Q a2 a6 a10 a14).getD 2 0, a11, a12, a13, (Q a2 a6 a10 a14).getD 3 0, a15] := rfl
theorem qA3 (Q : BitVec 32 → BitVec 32 → BitVec 32 → BitVec 32 → List (BitVec 32)) (a0 a1 a2 a3 a4 a5 a6 a7 a8 a9 a10 a11 a12 a13 a14 a15 : BitVec 32) : qAtG Q [a0, a1, a2, a3, a4, a5, a6, a7, a8, a9, a10, a11, a12, a13, a14, a15] 3 7 11 15 = [a0, a1, a2, (Q a3 a7 a11 a15).getD 0 0, a4, a5, a6, (Q a3 a7 a11 a15).getD 1 0, a8, a9, a10, (Q a3 a7 a11 a15).getD 2 0, a12, a13, a14, (Q a3 a7 a11 a15).getD 3 0] := rfl
theorem qA4 (Q : BitVec 32 → BitVec 32 → BitVec 32 → BitVec 32 → List (BitVec 32)) (a0 a1 a2 a3 a4 a5 a6 a7 a8 a9 a10 a11 a12 a13 a14 a15 : BitVec 32) : qAtG Q [a0, a1, a2, a3, a4, a5, a6, a7, a8, a9, a10, a11, a12, a13, a14, a15] 0 5 10 15 = [(Q a0 a5 a10 a15).getD 0 0, a1, a2, a3, a4, (Q a0 a5 a10 a15).getD 1 0, a6, a7, a8, a9, (Q a0 a5 a10 a15).getD 2 0, a11, a12, a13, a14, (Q a0 a5 a10 a15).getD 3 0] := rfl
theorem qA5 (Q : BitVec 32 → BitVec 32 → BitVec 32 → BitVec 32 → List (BitVec 32)) (a0 a1 a2 a3 a4 a5 a6 a7 a8 a9 a10 a11 a12 a13 a14 a15 : BitVec 32) : qAtG Q [a0, a1, a2, a3, a4, a5, a6, a7, a8, a9, a10, a11, a12, a13, a14, a15] 1 6 11 12 = [a0, (Q a1 a6 a11 a12).getD 0 0, a2, a3, a4, a5, (Q a1 a6 a11 a12).getD 1 0, a7, a8, a9, a10, (Q a1 a6 a11 a12).getD 2 0, (Q a1 a6 a11 a12).getD 3 0, a13, a14, a15] := rfl
theorem qA6 (Q : BitVec 32 → BitVec 32 → BitVec 32 → BitVec 32 → List (BitVec 32)) (a0 a1 a2 a3 a4 a5 a6 a7 a8 a9 a10 a11 a12 a13 a14 a15 : BitVec 32) : qAtG Q [a0, a1, a2, a3, a4, a5, a6, a7, a8, a9, a10, a11, a12, a13, a14, a15] 2 7 8 13 = [a0, a1, (Q a2 a7 a8 a13).getD 0 0, a3, a4, a5, a6, (Q a2 a7 a8 a13).getD 1 0, (Q a2 a7 a8 a13).getD 2 0, a9, a10, a11, a12, (Q a2 a7 a8 a13).getD 3 0, a14, a15] := rfl
theorem qA7 (Q : BitVec 32 → BitVec 32 → BitVec 32 → BitVec 32 → List (BitVec 32)) (a0 a1 a2 a3 a4 a5 a6 a7 a8 a9 a10 a11 a12 a13 a14 a15 : BitVec 32) : qAtG Q [a0, a1, a2, a3, a4, a5, a6, a7, a8, a9, a10, a11, a12, a13, a14, a15] 3 4 9 14 = [a0, a1, a2, (Q a3 a4 a9 a14).getD 0 0, (Q a3 a4 a9 a14).getD 1 0, a5, a6, a7, a8, (Q a3 a4 a9 a14).getD 2 0, a10, a11, a12, a13, (Q a3 a4 a9 a14).getD 3 0, a15] := rfl
theorem dbl_same (s : List (BitVec 32)) (h : s.length = 16) : dbl s = dblR s := by
  obtain ⟨x0, x1, x2, x3, x4, x5, x6, x7, x8, x9, x10, x11, x12, x13, x14, x15, rfl⟩ := list16 s h
  have hq : ∀ s i0 i1 i2 i3, qAt s i0 i1 i2 i3 = qAtG (quarterL left3) s i0 i1 i2 i3 := by
    intro s i0 i1 i2 i3
    unfold qAt qAtG
    simp only [quarter_same]
  unfold dbl
  rw [hq, hq, hq, hq, hq, hq, hq, hq, qA0, qA1, qA2, qA3, qA4, qA5, qA6, qA7]
  rfl
theorem rounds_same (k : Nat) (s : List (BitVec 32)) (h : s.length = 16) : rounds dbl k s = rounds dblR k s := by
  induction k with
  | zero => simp only [rounds]
  | succ k ih =>
    simp only [rounds]
    rw [ih, dbl_same _ (rounds_dblR_length k s h)]
theorem or_add (x y : BitVec 32) (n : Nat) (hx : x.toNat < 2 ^ n) (hy : y.toNat * 2 ^ n < 2 ^ 32) : x ||| y <<< n = x + y * BitVec.ofNat 32 (2 ^ n) := by
  apply BitVec.eq_of_toNat_eq
  have e : (y <<< n).toNat = y.toNat <<< n := by
    rw [BitVec.toNat_shiftLeft, Nat.shiftLeft_eq]; exact Nat.mod_eq_of_lt hy
  rw [BitVec.toNat_or, e, Nat.or_comm, ← Nat.shiftLeft_add_eq_or_of_lt hx, Nat.shiftLeft_eq, BitVec.toNat_add, BitVec.toNat_mul, BitVec.toNat_ofNat]
  have h1 : y.toNat * (2 ^ n % 2 ^ 32) % 2 ^ 32 = y.toNat * 2 ^ n := by
    rcases Nat.lt_or_ge n 32 with h | h
    · rw [Nat.mod_eq_of_lt (Nat.pow_lt_pow_right oM h)]; exact Nat.mod_eq_of_lt hy
    · have hy0 : y.toNat = 0 := by
        rcases Nat.eq_zero_or_pos y.toNat with h0 | h0
        · exact h0
        · have : 2 ^ 32 ≤ 2 ^ n := Nat.pow_le_pow_right oM h
          have : 1 * 2 ^ n ≤ y.toNat * 2 ^ n := Nat.mul_le_mul_right _ h0
          omega
      simp [hy0]
  rw [h1]
  have h2 : x.toNat + y.toNat * 2 ^ n < 2 ^ 32 := by
    rcases Nat.lt_or_ge n 32 with h | h
    · have hp : 2 ^ n * 2 ^ (32 - n) = 2 ^ 32 := by rw [← Nat.pow_add]; congr 1; omega
      have hlt : y.toNat < 2 ^ (32 - n) := by
        rcases Nat.lt_or_ge y.toNat (2 ^ (32 - n)) with h3 | h3
        · exact h3
        · have : 2 ^ (32 - n) * 2 ^ n ≤ y.toNat * 2 ^ n := Nat.mul_le_mul_right _ h3
          rw [Nat.mul_comm, hp] at this; omega
      have : (y.toNat + 1) * 2 ^ n ≤ 2 ^ (32 - n) * 2 ^ n := Nat.mul_le_mul_right _ hlt
      rw [Nat.mul_comm (2 ^ (32 - n)), hp, Nat.add_mul] at this
      omega
    · have hy0 : y.toNat = 0 := by
        rcases Nat.eq_zero_or_pos y.toNat with h0 | h0
        · exact h0
        · have : 2 ^ 32 ≤ 2 ^ n := Nat.pow_le_pow_right oM h
          have : 1 * 2 ^ n ≤ y.toNat * 2 ^ n := Nat.mul_le_mul_right _ h0
          omega
      have := x.isLt; simp only [hy0, Nat.zero_mul, Nat.add_zero]; exact this
  omega
theorem word_same (a b c d : BitVec 8) : wordP a b c d = wordR a b c d := by
  have ha := a.isLt; have hb := b.isLt; have hc := c.isLt; have hd := d.isLt
  have e8 : ∀ x : BitVec 8, (x.setWidth 32).toNat = x.toNat := fun x => by rw [BitVec.toNat_setWidth]; exact Nat.mod_eq_of_lt (by have := x.isLt; omega)
  unfold wordP wordR
  have h0 : 0#32 ||| a.setWidth 32 <<< 0 = a.setWidth 32 := by simp
  rw [h0, or_add _ _ 8 (by rw [e8]; omega) (by rw [e8]; omega)]
  have t1 : (a.setWidth 32 + b.setWidth 32 * BitVec.ofNat 32 (2 ^ 8)).toNat = a.toNat + b.toNat * 256 := by
    rw [BitVec.toNat_add, BitVec.toNat_mul, e8, e8]; simp; omega
  rw [or_add _ _ 16 (by rw [t1]; omega) (by rw [e8]; omega)]
  have t2 : (a.setWidth 32 + b.setWidth 32 * BitVec.ofNat 32 (2 ^ 8) + c.setWidth 32 * BitVec.ofNat 32 (2 ^ 16)).toNat = a.toNat + b.toNat * 256 + c.toNat * 65536 := by
    rw [BitVec.toNat_add, t1, BitVec.toNat_mul, e8]; simp; omega
  rw [or_add _ _ 24 (by rw [t2]; omega) (by rw [e8]; omega)]
  rfl
theorem wordPL_take (l : List (BitVec 8)) (i n : Nat) (hn : 4 ≤ n) : wordPL (kpart l i n) = wordRL (kpart l i 4) := by
  unfold wordPL wordRL kpart
  rw [word_same]
  have e : ∀ j, j < 4 → ((l.drop i).take n).getD j 0 = ((l.drop i).take 4).getD j 0 := by
    intro j hj
    simp only [List.getD_eq_getElem?_getD, List.getElem?_take]
    rw [if_pos oM, if_pos hj]
  rw [e 0 oM, e 1 oM, e 2 oM, e 3 oM]
theorem begin_same (key : List (BitVec 8)) (counter : BitVec 32) (nonce : List (BitVec 8)) : beginP wordPL key counter nonce = beginR wordRL key counter nonce := by
  have ek : wordPL key = wordRL (kpart key 0 4) := by
    have := wordPL_take key 0 (key.length + 4) oM
    have e : kpart key 0 (key.length + 4) = key := by unfold kpart; rw [List.drop_zero, List.take_of_length_le oM]
    rwa [e] at this
  have en : wordPL nonce = wordRL (kpart nonce 0 4) := by
    have := wordPL_take nonce 0 (nonce.length + 4) oM
    have e : kpart nonce 0 (nonce.length + 4) = nonce := by unfold kpart; rw [List.drop_zero, List.take_of_length_le oM]
    rwa [e] at this
  unfold beginP beginR
  rw [ek, en, wordPL_take key 4 28 oM, wordPL_take key 8 24 oM, wordPL_take key 12 20 oM, wordPL_take key 16 16 oM, wordPL_take key 20 12 oM, wordPL_take key 24 8 oM,
    wordPL_take nonce 4 8 oM, wordPL_take key 28 4 oM, wordPL_take nonce 8 4 oM]
theorem wordBytes_get (v s : List (BitVec 32)) : ∀ (k i : Nat), i < 4 * k → ((List.range k).flatMap (wordBytes v s)).getD i 0 = blockByte v s i := by
  intro k
  induction k with
  | zero => intro i h; omega
  | succ k ih =>
    intro i h
    rw [wordBytes_succ]
    have hl := wordBytes_length v s k
    simp only [List.getD_eq_getElem?_getD, List.getElem?_append, hl] at ih ⊢
    by_cases hi : i < 4 * k
    · rw [if_pos hi]; exact ih i hi
    · rw [if_neg hi]
      have hq : ((i : Int) / 4).toNat = k := by omega
      have hr : (8 * ((i : Int) % 4)).toNat = 8 * (i - 4 * k) := by omega
      unfold blockByte wordBytes
      rw [hq, hr]
      have : i - 4 * k = 0 ∨ i - 4 * k = 1 ∨ i - 4 * k = 2 ∨ i - 4 * k = 3 := by omega
      rcases this with h | h | h | h <;> simp [h]
theorem block_same (key : List (BitVec 8)) (counter : BitVec 32) (nonce : List (BitVec 8)) : blockP key counter nonce = blockR key counter nonce := by
  unfold blockP blockR
  rw [filled_all, begin_same, rounds_same _ _ (beginR_length _ _ _ _)]
  refine List.ext_getElem (by rw [wordBytes_length]; simp) fun i h1 h2 => ?_
  simp only [List.length_map, List.length_range] at h1
  have := wordBytes_get (rounds dblR 10 (beginR wordRL key counter nonce)) (beginR wordRL key counter nonce) 16 i oM
  rw [List.getD_eq_getElem?_getD, List.getElem?_eq_getElem h2, Option.getD_some] at this
  rw [this]; simp
theorem turn_same (key : List (BitVec 8)) (counter : BitVec 32) (nonce l : List (BitVec 8)) : turnP blockP key counter nonce l = turnP blockR key counter nonce l := by
  have : blockP = blockR := by funext a b c; exact block_same a b c
  rw [this]
theorem turnP_get (block : List (BitVec 8) → BitVec 32 → List (BitVec 8) → List (BitVec 8)) (key : List (BitVec 8)) (counter : BitVec 32) (nonce l : List (BitVec 8)) : turnP block key counter nonce l = (List.range l.length).map (turnByte block key counter nonce l) := by
  unfold turnP; rw [filled_all]
/-- Turned twice, bytes are what they were. -/
theorem turn_turn (block : List (BitVec 8) → BitVec 32 → List (BitVec 8) → List (BitVec 8)) (key : List (BitVec 8)) (counter : BitVec 32) (nonce l : List (BitVec 8)) : turnP block key counter nonce (turnP block key counter nonce l) = l := by
  rw [turnP_get block key counter nonce (turnP block key counter nonce l), turnP_length]
  refine List.ext_getElem (by simp) fun i h1 h2 => ?_
  have hl : (turnP block key counter nonce l).getD i 0 = turnByte block key counter nonce l i := by rw [turnP_get]; simp [List.getD_eq_getElem?_getD, h2]
  simp only [List.getElem_map, List.getElem_range]
  unfold turnByte at hl ⊢
  rw [hl, BitVec.xor_assoc, BitVec.xor_self, BitVec.xor_zero]
  simp [List.getD_eq_getElem?_getD, h2]
theorem turnR_at {key : List (BitVec 8)} {counter : BitVec 32} {nonce l : List (BitVec 8)} {m i : Nat} (h0 : 64 * m ≤ i) (h1 : i < 64 * m + 64) :
    l.getD i 0 ^^^ (blockR key (counter + BitVec.ofInt 32 (((64 * m : Nat) : Int) / 64)) nonce).getD ((i : Int) - ((64 * m : Nat) : Int)).toNat 0 = turnByte blockR key counter nonce l i := by
  have e1 : ((64 * m : Nat) : Int) / 64 = ((m : Nat) : Int) := by omega
  have e2 : ((i : Int) - ((64 * m : Nat) : Int)).toNat = i % 64 := by omega
  have e3 : i / 64 = m := by omega
  rw [e1, e2]
  unfold turnByte
  rw [e3]; congr 4
theorem range_snoc {α : Type} (g : Nat → α) (k : Nat) (x : α) (h : x = g k) : (List.range k).map g ++ [x] = (List.range (k + 1)).map g := by
  rw [List.range_succ, List.map_append, h]; rfl

set_option maxHeartbeats 1000000 in
theorem c_turn3 (key : List (BitVec 8)) (counter : BitVec 32) (nonce : List (BitVec 8)) (v : Value) (l : List (BitVec 8)) (w0 : World)  (hk : key.length = 32) (hn : nonce.length = 12) (hr : Rd (blks w0) u8 v l) (hl : l.length ≤ 1000000) : CallsR Tryd.prog 31 #[(agg u8 key), (u32 counter), (agg u8 nonce), v] w0 (fun r w1 => ∃ Hs, Grow u8 5 r (turnP blockR key counter nonce l) Hs ∧ Mem w1 (restOf w0) Hs) := by
 refine callsR_of_cw (args := [(agg u8 key), (u32 counter), (agg u8 nonce), v]) Tryd.func31 rfl Tryd.ntmps31 Tryd.results31 rfl ?_
 have hm0 : Mem w0 (restOf w0) [] := Mem.of_world w0
 refine cw_seq (cw_region ?_)
 refine rw_c rfl (or_box_agg (f := u8) (l := key) hm0 rfl) ?_
 rintro _ w1 ⟨b4, rfl, _ew1, hm1⟩
 refine rw_c rfl (or_box_agg (f := u8) (l := nonce) hm1 rfl) ?_
 rintro _ w2 ⟨b6, rfl, _ew2, hm2⟩
 refine rw_q rfl (ev_assign (v := (Value.slice none 0 0)) rfl) ?_
 refine rw_nil (kThen_normal (cw_seq (cw_region ?_)))
 refine rw_c rfl (or_buildSlice_cl u8 [] u8_one hm2 uT26 ti5 rfl (by simp [pairs]) rfl) ?_
 rintro _ w3 ⟨b13, rfl, _ew3, hm3⟩
 refine rw_q rfl (ev_assign (v := (slc b13 0 0 0)) rfl) ?_
 refine rw_nil (kThen_normal (cw_seq (cw_seq (cw_region ?_))))
 refine rw_q rfl (ev_assign (v := (i64 0)) rfl) ?_
 refine rw_nil (kThen_normal (cw_block ?_))
 refine cw_loop (fun g wv => ∃ (m : Nat) (ol : List (BitVec 8)) (so : Value) (Ho : List (Nat × Obj)), (64 * m ≤ l.length + 63) ∧ (ol = (List.range (min (64 * m) l.length)).map (turnByte blockR key counter nonce l)) ∧ (Grow u8 5 so ol Ho) ∧ g 0 = (agg u8 key) ∧ g 1 = (u32 counter) ∧ g 2 = (agg u8 nonce) ∧ g 3 = v ∧ g 4 = (ptr b4 0) ∧ g 6 = (ptr b6 0) ∧ g 8 = (Value.slice none 0 0) ∧ g 9 = so ∧ g 10 = (i64 ((64 * m : Nat) : Int)) ∧ Mem wv (restOf w0) (Ho ++ ([(b6, .cells (cl u8 nonce) 25 (0, 0)), (b4, .cells (cl u8 key) 23 (0, 0))]))) (fun g wv => ((l.length : Int) - RowKit.intOf (g 10)).toNat) ?_ ?_
 · exact ⟨0, [], (slc b13 0 0 0), [(b13, .cells (cl u8 ([])) 5 (0, 0))], oM, (by simp), (Grow.of u8 5 b13 ([])), rfl, rfl, rfl, rfl, rfl, rfl, rfl, rfl, rfl, hm3⟩
 · rintro fr4 w5 ⟨m, ol, so, Ho, hm1, hol, gro, s0, s1, s2, s3, s4, s6, s8, s9, s10, hm5⟩
   have z10 := s10
   have z9 := s9
   refine cw_seq (cw_seq (cw_region ?_))
   refine rM rfl s10 <| rM rfl s3 <| rw_q (v := (i64 (l.length : Int))) rfl (ev_len_rd (Rd.ofRest hr hm5) uT26 rfl) <| rw_q rfl (ev_i64_lss rfl rfl) ?_
   refine rw_nil (kThen_normal ?_)
   refine cw_cond rfl (fun hc6 => ?_) (fun hc6 => ?_)
   · -- true
     have hc6p := of_decide_eq_true hc6
     refine cw_skip (kThen_normal (cw_seq (cw_block (cw_seq (cw_region ?_)))))
     refine rw_q (v := (agg u8 key)) rfl (ev_loadA uT23 rfl ti23 s4 ((Mem.pick2 Ho [_] [_] _ hm5)).h0 sZ) <| rM rfl s1 <| rM rfl s10 <| rw_q rfl (ev_i64_quo (b := 64) rfl rfl oM oM oM) <| rw_q rfl (ev_conv_i64_u32 ⟨_, uT3⟩ uT55 rfl) <| rw_q rfl (ev_u32_add rfl rfl) ?_
     refine rw_q (v := (agg u8 nonce)) rfl (ev_loadA uT25 rfl ti25 s6 ((Mem.pick Ho [_] _ hm5)).h0 sZ) <| rw_c rfl (opR_call Tryd.func49 bd49 nm49 (args3 rfl rfl rfl) (c_block3 key (counter + (BitVec.ofInt 32 (((64 * m : Nat) : Int) / 64))) nonce _ sD sD)) ?_
     rintro rq8 w7 ⟨Hsq8, grq8, k_w7⟩
     have hm7 : Mem w7 (restOf w0) (Hsq8 ++ (Ho ++ ([(b6, .cells (cl u8 nonce) 25 (0, 0)), (b4, .cells (cl u8 key) 23 (0, 0))]))) := Mem.new (H := Ho ++ ([(b6, .cells (cl u8 nonce) 25 (0, 0)), (b4, .cells (cl u8 key) 23 (0, 0))])) (H' := Hsq8) hm5 k_w7
     refine rA rfl (v := rq8) rfl ?_
     refine rw_nil (kThen_normal ?_)
     refine CW.abs (fun g => g 0 = (agg u8 key) ∧ g 1 = (u32 counter) ∧ g 2 = (agg u8 nonce) ∧ g 3 = v ∧ g 4 = (ptr b4 0) ∧ g 6 = (ptr b6 0) ∧ g 8 = (Value.slice none 0 0) ∧ g 9 = so ∧ g 10 = (i64 ((64 * m : Nat) : Int)) ∧ g 11 = rq8 ∧ g 17 = (bl (decide (((64 * m : Nat) : Int) < (l.length : Int)))) ∧ True) ⟨s0, s1, s2, s3, s4, s6, s8, s9, s10, rfl, rfl, trivial⟩ ?_
     rintro fr9 ⟨s0, s1, s2, s3, s4, s6, s8, s9, s10, s11, s17, _⟩
     refine cw_seq (cw_region ?_)
     refine rM rfl s10 <| rw_q rfl (ev_assign (v := (i64 ((64 * m : Nat) : Int))) rfl) ?_
     refine rw_nil (kThen_normal (cw_block' ?_))
     refine cw_loop (fun g wv => ∃ (i : Nat) (ol2 : List (BitVec 8)) (so2 : Value) (Ho2 : List (Nat × Obj)), (64 * m ≤ i ∧ i ≤ 64 * m + 64 ∧ i ≤ l.length) ∧ (ol2 = (List.range i).map (turnByte blockR key counter nonce l)) ∧ (Grow u8 5 so2 ol2 Ho2) ∧ g 0 = (agg u8 key) ∧ g 1 = (u32 counter) ∧ g 2 = (agg u8 nonce) ∧ g 3 = v ∧ g 4 = (ptr b4 0) ∧ g 6 = (ptr b6 0) ∧ g 8 = (Value.slice none 0 0) ∧ g 9 = so2 ∧ g 10 = (i64 ((64 * m : Nat) : Int)) ∧ g 11 = rq8 ∧ g 12 = (i64 (i : Int)) ∧ g 17 = (bl (decide (((64 * m : Nat) : Int) < (l.length : Int)))) ∧ Mem wv (restOf w0) (Ho2 ++ (Hsq8 ++ ([(b6, .cells (cl u8 nonce) 25 (0, 0)), (b4, .cells (cl u8 key) 23 (0, 0))])))) (fun g wv => ((l.length : Int) - RowKit.intOf (g 12)).toNat) ?_ ?_
     have hm10 := (Mem.pick3 Hsq8 Ho [_] [_] _ hm7)
     have hm11 := (Mem.pick3 [_] Hsq8 Ho [_] _ hm10)
     have hm12 := (Mem.pick [_, _] Hsq8 _ hm11)
     have hm13 := (Mem.pick2 Hsq8 [_, _] Ho _ hm12)
     · exact ⟨64 * m, ol, so, Ho, oM, (by rw [hol, Nat.min_eq_left oM]), gro, s0, s1, s2, s3, s4, s6, s8, s9, s10, s11, rfl, s17, hm13⟩
     · rintro fr14 w15 ⟨i, ol2, so2, Ho2, hi1, hol2, gro2, s0, s1, s2, s3, s4, s6, s8, s9, s10, s11, s12, s17, hm15⟩
       have z12 := s12
       have z9 := s9
       have hol2l : ol2.length = i := by rw [hol2]; simp
       refine cw_seq (cw_seq (cw_region ?_))
       refine rM rfl s12 <| rM rfl s10 <| rw_q rfl (ev_i64_add (b := 64) rfl rfl oM oM) <| rw_q rfl (ev_i64_lss rfl rfl) <| rw_q rfl (ev_move (v := (bl (decide ((i : Int) < (((64 * m : Nat) : Int) + 64))))) rfl) ?_
       rcases Bool.eq_false_or_eq_true (decide ((i : Int) < (((64 * m : Nat) : Int) + 64))) with hb16 | hb16
       · -- true
         have hb16p := of_decide_eq_true hb16
         refine rw_gyq (s := 33) rfl rfl hb16 rfl (ev_move s12) <| rw_gyq (s := 33) rfl rfl hb16 rfl (ev_move s3) <| rw_gyq (s := 33) rfl rfl hb16 rfl (ev_len_rd (Rd.ofRest hr hm15) uT26 rfl) <| rw_gyq (s := 33) rfl rfl hb16 rfl (ev_i64_lss rfl rfl) <| rw_q rfl (ev_pick_tk rfl hb16 rfl) ?_
         refine rw_nil (kThen_normal ?_)
         refine cw_cond rfl (fun hc17 => ?_) (fun hc17 => ?_)
         · -- true
           have hc17p := of_decide_eq_true hc17
           refine cw_skip (kThen_normal (cw_seq (cw_block ?_)))
           refine cw_draw [(0, false), (1, false), (2, false), (3, false), (4, false), (5, false), (6, false), (7, false), (8, false), (9, false), (10, false), (11, false), (12, true)] 13 (by kernel_rfl) <| dM rfl rfl s9 <| dM rfl rfl s3 <| dM rfl rfl s12 <| dw_q rfl rfl (fun _ _hx => ev_indexAddr_rdv (Rd.ofRest hr (hm15.ext _hx)) uT26 ti5 rfl rfl oM sD) <| dw_q (v := (u8 (l.getD i 0))) rfl rfl (fun _ _hx => ev_load_rdD (l := l) (i := (i : Int)) (dflt := 0) (Rd.ofRest hr (hm15.ext _hx)) uT5 rfl oM sD rfl) ?_
           refine dM rfl rfl s11 <| dM rfl rfl s12 <| dM rfl rfl s10 <| dw_q rfl rfl (fun _ _hx => ev_i64_sub rfl rfl oM oM) <| dw_q rfl rfl (fun _ _hx => ev_indexAddr_rdv (grq8.rd (Mem.pick Ho2 Hsq8 _ (hm15.ext _hx))) uT26 ti5 rfl rfl oM sD) <| dw_q (v := (u8 ((blockR key (counter + (BitVec.ofInt 32 (((64 * m : Nat) : Int) / 64))) nonce).getD (((i : Int) - ((64 * m : Nat) : Int) : Int).toNat) 0))) rfl rfl (fun _ _hx => ev_load_rdD (l := blockR key (counter + (BitVec.ofInt 32 (((64 * m : Nat) : Int) / 64))) nonce) (i := (i : Int) - ((64 * m : Nat) : Int)) (dflt := 0) (grq8.rd (Mem.pick Ho2 Hsq8 _ (hm15.ext _hx))) uT5 rfl oM sD rfl) ?_
           refine dw_q rfl rfl (fun _ _hx => ev_u8_xor rfl rfl) ?_
           refine dw_c rfl rfl (fun w18 _ew18 => ?_)
           have hm18 := hm15.ext _ew18
           refine OpR.mono (or_buildSlice_cl u8 [(l.getD i 0) ^^^ ((blockR key (counter + (BitVec.ofInt 32 (((64 * m : Nat) : Int) / 64))) nonce).getD (((i : Int) - ((64 * m : Nat) : Int) : Int).toNat) 0)] u8_one hm18 uT26 ti5 rfl rfl rfl) ?_
           rintro _ w19 ⟨b53, rfl, _ew19, hm19⟩
           refine ⟨_ew19, ?_⟩
           refine dw_nil (fun w20 _ew20 => ?_)
           have hm20 := hm19.ext _ew20
           refine rw_c rfl (or_append (f := u8) (Hs := Ho2) (H := [(b53, .cells (cl u8 ([(l.getD i 0) ^^^ ((blockR key (counter + (BitVec.ofInt 32 (((64 * m : Nat) : Int) / 64))) nonce).getD (((i : Int) - ((64 * m : Nat) : Int) : Int).toNat) 0)])) 5 (0, 0))] ++ (Hsq8 ++ ([(b6, .cells (cl u8 nonce) 25 (0, 0)), (b4, .cells (cl u8 key) 23 (0, 0))]))) (Mem.pick [_] Ho2 _ hm20) gro2 rfl rfl (Rd.mkA hm20.h0) uT26 uT26 ti5 rfl u8_one sD sD) ?_
           rintro sv21 w21 ⟨Hs21, hm21, g21⟩
           replace g21 : Grow u8 5 sv21 (ol2 ++ ([(l.getD i 0) ^^^ ((blockR key (counter + (BitVec.ofInt 32 (((64 * m : Nat) : Int) / 64))) nonce).getD (((i : Int) - ((64 * m : Nat) : Int) : Int).toNat) 0)])) Hs21 := g21
           refine rA rfl (v := sv21) rfl ?_
           refine rw_nil (kBlk_normal ?_)
           have hm22 := Mem.drop ([(b53, .cells (cl u8 ([(l.getD i 0) ^^^ ((blockR key (counter + (BitVec.ofInt 32 (((64 * m : Nat) : Int) / 64))) nonce).getD (((i : Int) - ((64 * m : Nat) : Int) : Int).toNat) 0)])) 5 (0, 0))]) _ (Mem.pick Hs21 [_] _ hm21)
           refine CW.abs (fun g => g 0 = (agg u8 key) ∧ g 1 = (u32 counter) ∧ g 2 = (agg u8 nonce) ∧ g 3 = v ∧ g 4 = (ptr b4 0) ∧ g 6 = (ptr b6 0) ∧ g 8 = (Value.slice none 0 0) ∧ g 9 = sv21 ∧ g 10 = (i64 ((64 * m : Nat) : Int)) ∧ g 11 = rq8 ∧ g 12 = (i64 (i : Int)) ∧ g 17 = (bl (decide (((64 * m : Nat) : Int) < (l.length : Int)))) ∧ g 38 = (bl (decide ((i : Int) < (l.length : Int)))) ∧ True) ⟨s0, s1, s2, s3, s4, s6, s8, rfl, s10, s11, s12, s17, rfl, trivial⟩ ?_
           rintro fr23 ⟨s0, s1, s2, s3, s4, s6, s8, s9, s10, s11, s12, s17, s38, _⟩
           refine cw_region <| rM rfl s12 <| rw_q rfl (ev_i64_add (b := 1) rfl rfl oM oM) <| rw_q rfl (ev_assign (v := (i64 ((i : Int) + 1))) rfl) ?_
           refine rw_nil (kThen_normal ?_)
           exact ⟨⟨i + 1, ol2 ++ ([(l.getD i 0) ^^^ ((blockR key (counter + (BitVec.ofInt 32 (((64 * m : Nat) : Int) / 64))) nonce).getD (((i : Int) - ((64 * m : Nat) : Int) : Int).toNat) 0)]), sv21, Hs21, oM, (by rw [hol2]; exact range_snoc _ _ _ (turnR_at oM oM)), g21, s0, s1, s2, s3, s4, s6, s8, s9, s10, s11, rfl, s17, hm22⟩, meas rfl z12 oM oM⟩
         · -- false
           have hc17p := of_decide_eq_false hc17
           refine cw_exit ?_
           refine kThen_exit (kThen_exit (kBlk_hit ?_))
           refine kBlk_normal (cw_region ?_)
           refine rM rfl s10 <| rw_q rfl (ev_i64_add (b := 64) rfl rfl oM oM) <| rw_q rfl (ev_assign (v := (i64 (((64 * m : Nat) : Int) + 64))) rfl) ?_
           refine rw_nil (kThen_normal ?_)
           have hmin : i = min (64 * (m + 1)) l.length := by omega
           have hol3 := hol2
           rw [hmin] at hol3
           have hm24 := Mem.drop Hsq8 _ (Mem.pick Ho2 Hsq8 _ hm15)
           exact ⟨⟨m + 1, ol2, so2, Ho2, oM, hol3, gro2, s0, s1, s2, s3, s4, s6, s8, s9, (by show i64 _ = i64 _; congr 1), hm24⟩, meas (by show i64 _ = i64 _; congr 1) z10 (a' := ((64 * (m + 1) : Nat) : Int)) oM oM⟩
       · -- false
         have hb16p := of_decide_eq_false hb16
         refine rw_gn (s := 33) rfl rfl hb16 rfl <| rw_gn (s := 33) rfl rfl hb16 rfl <| rw_gn (s := 33) rfl rfl hb16 rfl <| rw_gn (s := 33) rfl rfl hb16 rfl <| rw_q rfl (ev_pick_fk rfl hb16 rfl) ?_
         refine rw_nil (kThen_normal ?_)
         refine cw_cond_f rfl (by decide) <| cw_exit ?_
         refine kThen_exit (kThen_exit (kBlk_hit ?_))
         refine kBlk_normal (cw_region ?_)
         refine rM rfl s10 <| rw_q rfl (ev_i64_add (b := 64) rfl rfl oM oM) <| rw_q rfl (ev_assign (v := (i64 (((64 * m : Nat) : Int) + 64))) rfl) ?_
         refine rw_nil (kThen_normal ?_)
         have hmin : i = min (64 * (m + 1)) l.length := by omega
         have hol3 := hol2
         rw [hmin] at hol3
         have hm25 := Mem.drop Hsq8 _ (Mem.pick Ho2 Hsq8 _ hm15)
         exact ⟨⟨m + 1, ol2, so2, Ho2, oM, hol3, gro2, s0, s1, s2, s3, s4, s6, s8, s9, (by show i64 _ = i64 _; congr 1), hm25⟩, meas (by show i64 _ = i64 _; congr 1) z10 (a' := ((64 * (m + 1) : Nat) : Int)) oM oM⟩
   · -- false
     have hc6p := of_decide_eq_false hc6
     refine cw_exit ?_
     refine kThen_exit (kThen_exit (kBlk_hit ?_))
     refine cw_seq (cw_region ?_)
     refine rM rfl s9 <| rA rfl (v := so) rfl ?_
     refine rw_nil (kThen_normal (cw_ret ?_))
     refine fnPost_ret [so] ⟨rfl, trivial⟩ ?_
     have hfin : ol = turnP blockR key counter nonce l := by rw [hol, turnP_get, Nat.min_eq_right oM]
     have hm26 := Mem.drop ([(b6, .cells (cl u8 nonce) 25 (0, 0))]) _ (Mem.pick Ho [_] _ hm5)
     have hm27 := Mem.drop ([(b4, .cells (cl u8 key) 23 (0, 0))]) _ (Mem.pick Ho [_] _ hm26)
     exact ⟨Ho, hfin ▸ gro, by simpa using hm27⟩


end Go.Proofs.YtmiagmbgfhakgaaDoor

