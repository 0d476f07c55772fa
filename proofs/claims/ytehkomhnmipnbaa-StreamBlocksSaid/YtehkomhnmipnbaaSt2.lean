/- Contracts: stream, second part. Conditions: none beyond those that each theorem states. -/
import Derived.Test.YtehkomhnmipnbaaSt1
namespace Go.Proofs.Ytehkomhnmipnbaa
set_option linter.unusedVariables false
set_option linter.unusedSimpArgs false

def kpart (key : List (BitVec 8)) (i n : Nat) : List (BitVec 8) := (key.drop i).take n
def beginP (word : List (BitVec 8) → BitVec 32) (key : List (BitVec 8)) (counter : BitVec 32) (nonce : List (BitVec 8)) : List (BitVec 32) :=
  [1634760805#32, 857760878#32, 2036477234#32, 1797285236#32, word key, word (kpart key 4 28), word (kpart key 8 24), word (kpart key 12 20),
   word (kpart key 16 16), word (kpart key 20 12), word (kpart key 24 8), word (kpart key 28 4), counter, word nonce, word (kpart nonce 4 8), word (kpart nonce 8 4)]
@[simp] theorem beginP_length (word : List (BitVec 8) → BitVec 32) (key : List (BitVec 8)) (counter : BitVec 32) (nonce : List (BitVec 8)) : (beginP word key counter nonce).length = 16 := rfl
attribute [simp] qAt_length
def dbl (s : List (BitVec 32)) : List (BitVec 32) :=
  qAt (qAt (qAt (qAt (qAt (qAt (qAt (qAt s 0 4 8 12) 1 5 9 13) 2 6 10 14) 3 7 11 15) 0 5 10 15) 1 6 11 12) 2 7 8 13) 3 4 9 14
def rounds (f : List (BitVec 32) → List (BitVec 32)) : Nat → List (BitVec 32) → List (BitVec 32)
  | 0, s => s
  | k + 1, s => f (rounds f k s)
@[simp] theorem dbl_length (s : List (BitVec 32)) : (dbl s).length = s.length := by simp [dbl]
@[simp] theorem rounds_dbl_length (k : Nat) (s : List (BitVec 32)) : (rounds dbl k s).length = s.length := by
  induction k with
  | zero => rfl
  | succ k ih => simp [rounds, ih]
def blockByte (s f : List (BitVec 32)) (i : Nat) : BitVec 8 :=
  ((s.getD ((i : Int) / 4).toNat 0 + f.getD ((i : Int) / 4).toNat 0) >>> (8 * ((i : Int) % 4)).toNat).setWidth 8
def blockP (key : List (BitVec 8)) (counter : BitVec 32) (nonce : List (BitVec 8)) : List (BitVec 8) :=
  filled (blockByte (rounds dbl 10 (beginP wordPL key counter nonce)) (beginP wordPL key counter nonce)) 0 64 64
@[simp] theorem blockP_length (key : List (BitVec 8)) (counter : BitVec 32) (nonce : List (BitVec 8)) : (blockP key counter nonce).length = 64 := by
  unfold blockP; rw [filled_length _ _ _ _ (by omega)]
@[simp] theorem filled_length' {α : Type} (g : Nat → α) (z : α) (n k : Nat) : (filled g z n k).length = k + (n - k) := by simp [filled]

theorem c_begin (key : List (BitVec 8)) (counter : BitVec 32) (nonce : List (BitVec 8)) (w0 : World)  (hk : key.length = 32) (hn : nonce.length = 12) : CallsR Try.prog 16 #[(agg u8 key), (u32 counter), (agg u8 nonce)] w0 (fun r w1 => r = (agg u32 (beginP wordPL key counter nonce)) ∧ Ext w0 w1) := by
  refine callsR_of_cw (args := [(agg u8 key), (u32 counter), (agg u8 nonce)]) Try.func16 rfl Try.ntmps16 Try.results16 rfl ?_
  have hm0 : Mem w0 (restOf w0) [] := Mem.of_world w0
  refine cw_seq ?_
  refine cw_region ?_
  refine rw_c rfl (or_box_agg (f := u8) (l := key) hm0 rfl) ?_
  rintro _ w1 ⟨b3, rfl, _ew1, hm1⟩
  refine rw_c rfl (or_box_agg (f := u8) (l := nonce) hm1 rfl) ?_
  rintro _ w2 ⟨b5, rfl, _ew2, hm2⟩
  refine rw_c rfl (or_alloc_agg hm2 ti43) ?_
  rintro _ w3 ⟨b6, rfl, _ew3, hm3⟩
  refine rw_nil ?_
  refine kThen_normal ?_
  refine cw_seq ?_
  refine cw_region ?_
  refine rw_q rfl (ev_slice_sla (i := 0) (j := 16) Try.underlying43 ti22 rfl (optI_none _ _) (optI_none _ _) (by omega) (by first | omega | (simp only [List.length_set, List.length_append, List.length_replicate, List.length_map, List.length_cons, List.length_nil]; omega) | (simp; done) | (simp; omega)) (by first | omega | (simp only [List.length_set, List.length_append, List.length_replicate, List.length_map, List.length_cons, List.length_nil]; omega) | (simp; done) | (simp; omega))) ?_
  refine rw_c rfl (or_buildSlice_cl u32 [1634760805#32, 857760878#32, 2036477234#32, 1797285236#32] u32_one hm3 Try.underlying46 ti22 rfl rfl rfl) ?_
  rintro _ w4 ⟨b10, rfl, _ew4, hm4⟩
  refine rw_c rfl (or_copy_cl (f := u32) (Eq.trans rfl (sla_full (by decide))) rfl (Rd.mkA hm4.h0) Try.underlying46 ti22 u32_one hm4.h1 (by first | omega | (simp only [List.length_set, List.length_append, List.length_replicate, List.length_map, List.length_cons, List.length_nil]; omega) | (simp; done) | (simp; omega)) (by first | omega | (simp only [List.length_set, List.length_append, List.length_replicate, List.length_map, List.length_cons, List.length_nil]; omega) | (simp; done) | (simp; omega)) (Nat.le_refl _)) ?_
  rintro _ w5 ⟨rfl, uq5⟩
  have hm5 : Mem w5 (restOf w0) [(b10, .cells (cl u32 ([1634760805#32, 857760878#32, 2036477234#32, 1797285236#32])) 22 (0, 0)), (b6, .cells (cl u32 ([1634760805#32, 857760878#32, 2036477234#32, 1797285236#32, 0, 0, 0, 0, 0, 0, 0, 0, 0, 0, 0, 0])) 43 (0, 0)), (b5, .cells (cl u8 nonce) 30 (0, 0)), (b3, .cells (cl u8 key) 28 (0, 0))] := hm4.updAt 1 rfl uq5
  refine rw_nil ?_
  refine kThen_normal ?_
  refine cw_seq ?_
  refine cw_seq ?_
  refine cw_region ?_
  refine rw_q rfl (ev_move (v := (i64 0)) rfl) ?_
  refine rw_nil ?_
  refine kThen_normal ?_
  refine cw_block ?_
  refine cw_rounds 9 ?_
  refine cr_succ ?_
  refine cw_seq ?_
  refine cw_region ?_
  refine rw_q rfl (ev_i64_lss (a := 0) (b := 8) rfl rfl) ?_
  refine rw_nil ?_
  refine kThen_normal ?_
  refine cw_seq ?_
  refine cw_cond_t rfl (by decide) ?_
  refine cw_skip ?_
  refine kThen_normal ?_
  refine cw_seq ?_
  refine cw_block ?_
  refine cw_seq ?_
  refine cw_region ?_
  refine rw_q rfl (ev_move (v := (i64 0)) rfl) ?_
  refine rw_q rfl (ev_assign (v := (i64 0)) rfl) ?_
  refine rw_nil ?_
  refine kThen_normal ?_
  refine cw_region ?_
  refine rw_q rfl (ev_move (v := (i64 0)) rfl) ?_
  refine rw_q (v := (i64 4)) rfl (ev_i64_add (a := 4) (b := 0) rfl rfl (by omega) (by omega)) ?_
  refine rw_q rfl (ev_move (v := (i64 0)) rfl) ?_
  refine rw_q (v := (i64 0)) rfl (ev_i64_mul (a := 4) (b := 0) rfl rfl (by omega) (by omega)) ?_
  refine rw_q rfl (ev_slice_sla (i := 0) (j := 32) Try.underlying28 ti5 rfl (optI_some (k := .i64) (i := 0) rfl) (optI_none _ _) (by omega) (by first | omega | (simp only [List.length_set, List.length_append, List.length_replicate, List.length_map, List.length_cons, List.length_nil]; omega) | (simp; done) | (simp; omega)) (by first | omega | (simp only [List.length_set, List.length_append, List.length_replicate, List.length_map, List.length_cons, List.length_nil]; omega) | (simp; done) | (simp; omega))) ?_
  refine rw_c rfl (opR_call Try.func21 bd21 nm21 (args1 rfl) (c_word (sla b3 0 1 0 32 32) key _ (Rd.slaAll hm5.h3 (by first | omega | (simp only [List.length_set, List.length_append, List.length_replicate, List.length_map, List.length_cons, List.length_nil]; omega) | (simp; done) | (simp; omega))) (by first | omega | (simp only [List.length_set, List.length_append, List.length_replicate, List.length_map, List.length_cons, List.length_nil]; omega) | (simp; done) | (simp; omega)))) ?_
  rintro _ w6 ⟨rfl, _ew6⟩
  have hm6 := hm5.ext _ew6
  refine rw_q rfl (ev_ia_arr (r := 4) (i := 4) (by omega) Try.underlying43 ti22 rfl rfl (by omega) (by omega)) ?_
  refine rw_n (or_store_cl' (f := u32) (l' := [1634760805#32, 857760878#32, 2036477234#32, 1797285236#32, wordPL key, 0, 0, 0, 0, 0, 0, 0, 0, 0, 0, 0]) rfl u32_one ti22 rfl rfl hm6.h1 (by simp) (.inl (Nat.zero_le _))) ?_
  rintro _ w7 uq7
  have hm7 := hm6.upd1 uq7
  refine rw_nil ?_
  refine kBlk_normal ?_
  have hm8 := Mem.drop ([(b10, .cells (cl u32 ([1634760805#32, 857760878#32, 2036477234#32, 1797285236#32])) 22 (0, 0))]) _ hm7
  refine CW.abs (fun g => g 0 = (agg u8 key) ∧ g 1 = (u32 counter) ∧ g 2 = (agg u8 nonce) ∧ g 3 = (ptr b3 0) ∧ g 5 = (ptr b5 0) ∧ g 6 = (ptr b6 0) ∧ g 7 = (i64 0) ∧ g 12 = (i64 0) ∧ g 13 = (bl true) ∧ True) ⟨rfl, rfl, rfl, rfl, rfl, rfl, rfl, rfl, rfl, trivial⟩ ?_
  rintro fr9 ⟨s0, s1, s2, s3, s5, s6, s7, s12, s13, _⟩
  refine cw_region ?_
  refine rw_q (v := (i64 1)) rfl (ev_i64_add (a := 0) (b := 1) s12 rfl (by omega) (by omega)) ?_
  refine rw_q rfl (ev_move (v := (i64 1)) rfl) ?_
  refine rw_nil ?_
  refine kThen_normal ?_
  refine cr_succ ?_
  refine cw_seq ?_
  refine cw_region ?_
  refine rw_q rfl (ev_i64_lss (a := 1) (b := 8) rfl rfl) ?_
  refine rw_nil ?_
  refine kThen_normal ?_
  refine cw_seq ?_
  refine cw_cond_t rfl (by decide) ?_
  refine cw_skip ?_
  refine kThen_normal ?_
  refine cw_seq ?_
  refine cw_block ?_
  refine cw_seq ?_
  refine cw_region ?_
  refine rw_q rfl (ev_move (v := (i64 1)) rfl) ?_
  refine rw_q rfl (ev_assign (v := (i64 1)) rfl) ?_
  refine rw_nil ?_
  refine kThen_normal ?_
  refine cw_region ?_
  refine rw_q rfl (ev_move (v := (i64 1)) rfl) ?_
  refine rw_q (v := (i64 5)) rfl (ev_i64_add (a := 4) (b := 1) rfl rfl (by omega) (by omega)) ?_
  refine rw_q rfl (ev_move (v := (i64 1)) rfl) ?_
  refine rw_q (v := (i64 4)) rfl (ev_i64_mul (a := 4) (b := 1) rfl rfl (by omega) (by omega)) ?_
  refine rw_q rfl (ev_slice_sla (i := 4) (j := 32) Try.underlying28 ti5 s3 (optI_some (k := .i64) (i := 4) rfl) (optI_none _ _) (by omega) (by first | omega | (simp only [List.length_set, List.length_append, List.length_replicate, List.length_map, List.length_cons, List.length_nil]; omega) | (simp; done) | (simp; omega)) (by first | omega | (simp only [List.length_set, List.length_append, List.length_replicate, List.length_map, List.length_cons, List.length_nil]; omega) | (simp; done) | (simp; omega))) ?_
  refine rw_c rfl (opR_call Try.func21 bd21 nm21 (args1 rfl) (c_word (sla b3 0 1 4 32 32) ((key.drop 4).take 28) _ (Rd.cast (l' := (key.drop 4).take 28) (Rd.sla hm8.h2 (by first | omega | (simp only [List.length_set, List.length_append, List.length_replicate, List.length_map, List.length_cons, List.length_nil]; omega) | (simp; done) | (simp; omega)) (by omega) (by first | omega | (simp only [List.length_set, List.length_append, List.length_replicate, List.length_map, List.length_cons, List.length_nil]; omega) | (simp; done) | (simp; omega)) (by first | omega | (simp only [List.length_set, List.length_append, List.length_replicate, List.length_map, List.length_cons, List.length_nil]; omega) | (simp; done) | (simp; omega))) rfl) (by first | omega | (simp only [List.length_set, List.length_append, List.length_replicate, List.length_map, List.length_cons, List.length_nil]; omega) | (simp; done) | (simp; omega)))) ?_
  rintro _ w10 ⟨rfl, _ew10⟩
  have hm10 := hm8.ext _ew10
  refine rw_q rfl (ev_ia_arr (r := 5) (i := 5) (by omega) Try.underlying43 ti22 s6 rfl (by omega) (by omega)) ?_
  refine rw_n (or_store_cl' (f := u32) (l' := [1634760805#32, 857760878#32, 2036477234#32, 1797285236#32, wordPL key, wordPL ((key.drop 4).take 28), 0, 0, 0, 0, 0, 0, 0, 0, 0, 0]) rfl u32_one ti22 rfl rfl hm10.h0 (by simp) (.inl (Nat.zero_le _))) ?_
  rintro _ w11 uq11
  have hm11 := hm10.upd0 uq11
  refine rw_nil ?_
  refine kBlk_normal ?_
  refine CW.abs (fun g => g 0 = (agg u8 key) ∧ g 1 = (u32 counter) ∧ g 2 = (agg u8 nonce) ∧ g 3 = (ptr b3 0) ∧ g 5 = (ptr b5 0) ∧ g 6 = (ptr b6 0) ∧ g 7 = (i64 1) ∧ g 12 = (i64 1) ∧ g 13 = (bl true) ∧ True) ⟨s0, s1, s2, s3, s5, s6, rfl, rfl, rfl, trivial⟩ ?_
  rintro fr12 ⟨s0, s1, s2, s3, s5, s6, s7, s12, s13, _⟩
  refine cw_region ?_
  refine rw_q (v := (i64 2)) rfl (ev_i64_add (a := 1) (b := 1) s12 rfl (by omega) (by omega)) ?_
  refine rw_q rfl (ev_move (v := (i64 2)) rfl) ?_
  refine rw_nil ?_
  refine kThen_normal ?_
  refine cr_succ ?_
  refine cw_seq ?_
  refine cw_region ?_
  refine rw_q rfl (ev_i64_lss (a := 2) (b := 8) rfl rfl) ?_
  refine rw_nil ?_
  refine kThen_normal ?_
  refine cw_seq ?_
  refine cw_cond_t rfl (by decide) ?_
  refine cw_skip ?_
  refine kThen_normal ?_
  refine cw_seq ?_
  refine cw_block ?_
  refine cw_seq ?_
  refine cw_region ?_
  refine rw_q rfl (ev_move (v := (i64 2)) rfl) ?_
  refine rw_q rfl (ev_assign (v := (i64 2)) rfl) ?_
  refine rw_nil ?_
  refine kThen_normal ?_
  refine cw_region ?_
  refine rw_q rfl (ev_move (v := (i64 2)) rfl) ?_
  refine rw_q (v := (i64 6)) rfl (ev_i64_add (a := 4) (b := 2) rfl rfl (by omega) (by omega)) ?_
  refine rw_q rfl (ev_move (v := (i64 2)) rfl) ?_
  refine rw_q (v := (i64 8)) rfl (ev_i64_mul (a := 4) (b := 2) rfl rfl (by omega) (by omega)) ?_
  refine rw_q rfl (ev_slice_sla (i := 8) (j := 32) Try.underlying28 ti5 s3 (optI_some (k := .i64) (i := 8) rfl) (optI_none _ _) (by omega) (by first | omega | (simp only [List.length_set, List.length_append, List.length_replicate, List.length_map, List.length_cons, List.length_nil]; omega) | (simp; done) | (simp; omega)) (by first | omega | (simp only [List.length_set, List.length_append, List.length_replicate, List.length_map, List.length_cons, List.length_nil]; omega) | (simp; done) | (simp; omega))) ?_
  refine rw_c rfl (opR_call Try.func21 bd21 nm21 (args1 rfl) (c_word (sla b3 0 1 8 32 32) ((key.drop 8).take 24) _ (Rd.cast (l' := (key.drop 8).take 24) (Rd.sla hm11.h2 (by first | omega | (simp only [List.length_set, List.length_append, List.length_replicate, List.length_map, List.length_cons, List.length_nil]; omega) | (simp; done) | (simp; omega)) (by omega) (by first | omega | (simp only [List.length_set, List.length_append, List.length_replicate, List.length_map, List.length_cons, List.length_nil]; omega) | (simp; done) | (simp; omega)) (by first | omega | (simp only [List.length_set, List.length_append, List.length_replicate, List.length_map, List.length_cons, List.length_nil]; omega) | (simp; done) | (simp; omega))) rfl) (by first | omega | (simp only [List.length_set, List.length_append, List.length_replicate, List.length_map, List.length_cons, List.length_nil]; omega) | (simp; done) | (simp; omega)))) ?_
  rintro _ w13 ⟨rfl, _ew13⟩
  have hm13 := hm11.ext _ew13
  refine rw_q rfl (ev_ia_arr (r := 6) (i := 6) (by omega) Try.underlying43 ti22 s6 rfl (by omega) (by omega)) ?_
  refine rw_n (or_store_cl' (f := u32) (l' := [1634760805#32, 857760878#32, 2036477234#32, 1797285236#32, wordPL key, wordPL ((key.drop 4).take 28), wordPL ((key.drop 8).take 24), 0, 0, 0, 0, 0, 0, 0, 0, 0]) rfl u32_one ti22 rfl rfl hm13.h0 (by simp) (.inl (Nat.zero_le _))) ?_
  rintro _ w14 uq14
  have hm14 := hm13.upd0 uq14
  refine rw_nil ?_
  refine kBlk_normal ?_
  refine CW.abs (fun g => g 0 = (agg u8 key) ∧ g 1 = (u32 counter) ∧ g 2 = (agg u8 nonce) ∧ g 3 = (ptr b3 0) ∧ g 5 = (ptr b5 0) ∧ g 6 = (ptr b6 0) ∧ g 7 = (i64 2) ∧ g 12 = (i64 2) ∧ g 13 = (bl true) ∧ True) ⟨s0, s1, s2, s3, s5, s6, rfl, rfl, rfl, trivial⟩ ?_
  rintro fr15 ⟨s0, s1, s2, s3, s5, s6, s7, s12, s13, _⟩
  refine cw_region ?_
  refine rw_q (v := (i64 3)) rfl (ev_i64_add (a := 2) (b := 1) s12 rfl (by omega) (by omega)) ?_
  refine rw_q rfl (ev_move (v := (i64 3)) rfl) ?_
  refine rw_nil ?_
  refine kThen_normal ?_
  refine cr_succ ?_
  refine cw_seq ?_
  refine cw_region ?_
  refine rw_q rfl (ev_i64_lss (a := 3) (b := 8) rfl rfl) ?_
  refine rw_nil ?_
  refine kThen_normal ?_
  refine cw_seq ?_
  refine cw_cond_t rfl (by decide) ?_
  refine cw_skip ?_
  refine kThen_normal ?_
  refine cw_seq ?_
  refine cw_block ?_
  refine cw_seq ?_
  refine cw_region ?_
  refine rw_q rfl (ev_move (v := (i64 3)) rfl) ?_
  refine rw_q rfl (ev_assign (v := (i64 3)) rfl) ?_
  refine rw_nil ?_
  refine kThen_normal ?_
  refine cw_region ?_
  refine rw_q rfl (ev_move (v := (i64 3)) rfl) ?_
  refine rw_q (v := (i64 7)) rfl (ev_i64_add (a := 4) (b := 3) rfl rfl (by omega) (by omega)) ?_
  refine rw_q rfl (ev_move (v := (i64 3)) rfl) ?_
  refine rw_q (v := (i64 12)) rfl (ev_i64_mul (a := 4) (b := 3) rfl rfl (by omega) (by omega)) ?_
  refine rw_q rfl (ev_slice_sla (i := 12) (j := 32) Try.underlying28 ti5 s3 (optI_some (k := .i64) (i := 12) rfl) (optI_none _ _) (by omega) (by first | omega | (simp only [List.length_set, List.length_append, List.length_replicate, List.length_map, List.length_cons, List.length_nil]; omega) | (simp; done) | (simp; omega)) (by first | omega | (simp only [List.length_set, List.length_append, List.length_replicate, List.length_map, List.length_cons, List.length_nil]; omega) | (simp; done) | (simp; omega))) ?_
  refine rw_c rfl (opR_call Try.func21 bd21 nm21 (args1 rfl) (c_word (sla b3 0 1 12 32 32) ((key.drop 12).take 20) _ (Rd.cast (l' := (key.drop 12).take 20) (Rd.sla hm14.h2 (by first | omega | (simp only [List.length_set, List.length_append, List.length_replicate, List.length_map, List.length_cons, List.length_nil]; omega) | (simp; done) | (simp; omega)) (by omega) (by first | omega | (simp only [List.length_set, List.length_append, List.length_replicate, List.length_map, List.length_cons, List.length_nil]; omega) | (simp; done) | (simp; omega)) (by first | omega | (simp only [List.length_set, List.length_append, List.length_replicate, List.length_map, List.length_cons, List.length_nil]; omega) | (simp; done) | (simp; omega))) rfl) (by first | omega | (simp only [List.length_set, List.length_append, List.length_replicate, List.length_map, List.length_cons, List.length_nil]; omega) | (simp; done) | (simp; omega)))) ?_
  rintro _ w16 ⟨rfl, _ew16⟩
  have hm16 := hm14.ext _ew16
  refine rw_q rfl (ev_ia_arr (r := 7) (i := 7) (by omega) Try.underlying43 ti22 s6 rfl (by omega) (by omega)) ?_
  refine rw_n (or_store_cl' (f := u32) (l' := [1634760805#32, 857760878#32, 2036477234#32, 1797285236#32, wordPL key, wordPL ((key.drop 4).take 28), wordPL ((key.drop 8).take 24), wordPL ((key.drop 12).take 20), 0, 0, 0, 0, 0, 0, 0, 0]) rfl u32_one ti22 rfl rfl hm16.h0 (by simp) (.inl (Nat.zero_le _))) ?_
  rintro _ w17 uq17
  have hm17 := hm16.upd0 uq17
  refine rw_nil ?_
  refine kBlk_normal ?_
  refine CW.abs (fun g => g 0 = (agg u8 key) ∧ g 1 = (u32 counter) ∧ g 2 = (agg u8 nonce) ∧ g 3 = (ptr b3 0) ∧ g 5 = (ptr b5 0) ∧ g 6 = (ptr b6 0) ∧ g 7 = (i64 3) ∧ g 12 = (i64 3) ∧ g 13 = (bl true) ∧ True) ⟨s0, s1, s2, s3, s5, s6, rfl, rfl, rfl, trivial⟩ ?_
  rintro fr18 ⟨s0, s1, s2, s3, s5, s6, s7, s12, s13, _⟩
  refine cw_region ?_
  refine rw_q (v := (i64 4)) rfl (ev_i64_add (a := 3) (b := 1) s12 rfl (by omega) (by omega)) ?_
  refine rw_q rfl (ev_move (v := (i64 4)) rfl) ?_
  refine rw_nil ?_
  refine kThen_normal ?_
  refine cr_succ ?_
  refine cw_seq ?_
  refine cw_region ?_
  refine rw_q rfl (ev_i64_lss (a := 4) (b := 8) rfl rfl) ?_
  refine rw_nil ?_
  refine kThen_normal ?_
  refine cw_seq ?_
  refine cw_cond_t rfl (by decide) ?_
  refine cw_skip ?_
  refine kThen_normal ?_
  refine cw_seq ?_
  refine cw_block ?_
  refine cw_seq ?_
  refine cw_region ?_
  refine rw_q rfl (ev_move (v := (i64 4)) rfl) ?_
  refine rw_q rfl (ev_assign (v := (i64 4)) rfl) ?_
  refine rw_nil ?_
  refine kThen_normal ?_
  refine cw_region ?_
  refine rw_q rfl (ev_move (v := (i64 4)) rfl) ?_
  refine rw_q (v := (i64 8)) rfl (ev_i64_add (a := 4) (b := 4) rfl rfl (by omega) (by omega)) ?_
  refine rw_q rfl (ev_move (v := (i64 4)) rfl) ?_
  refine rw_q (v := (i64 16)) rfl (ev_i64_mul (a := 4) (b := 4) rfl rfl (by omega) (by omega)) ?_
  refine rw_q rfl (ev_slice_sla (i := 16) (j := 32) Try.underlying28 ti5 s3 (optI_some (k := .i64) (i := 16) rfl) (optI_none _ _) (by omega) (by first | omega | (simp only [List.length_set, List.length_append, List.length_replicate, List.length_map, List.length_cons, List.length_nil]; omega) | (simp; done) | (simp; omega)) (by first | omega | (simp only [List.length_set, List.length_append, List.length_replicate, List.length_map, List.length_cons, List.length_nil]; omega) | (simp; done) | (simp; omega))) ?_
  refine rw_c rfl (opR_call Try.func21 bd21 nm21 (args1 rfl) (c_word (sla b3 0 1 16 32 32) ((key.drop 16).take 16) _ (Rd.cast (l' := (key.drop 16).take 16) (Rd.sla hm17.h2 (by first | omega | (simp only [List.length_set, List.length_append, List.length_replicate, List.length_map, List.length_cons, List.length_nil]; omega) | (simp; done) | (simp; omega)) (by omega) (by first | omega | (simp only [List.length_set, List.length_append, List.length_replicate, List.length_map, List.length_cons, List.length_nil]; omega) | (simp; done) | (simp; omega)) (by first | omega | (simp only [List.length_set, List.length_append, List.length_replicate, List.length_map, List.length_cons, List.length_nil]; omega) | (simp; done) | (simp; omega))) rfl) (by first | omega | (simp only [List.length_set, List.length_append, List.length_replicate, List.length_map, List.length_cons, List.length_nil]; omega) | (simp; done) | (simp; omega)))) ?_
  rintro _ w19 ⟨rfl, _ew19⟩
  have hm19 := hm17.ext _ew19
  refine rw_q rfl (ev_ia_arr (r := 8) (i := 8) (by omega) Try.underlying43 ti22 s6 rfl (by omega) (by omega)) ?_
  refine rw_n (or_store_cl' (f := u32) (l' := [1634760805#32, 857760878#32, 2036477234#32, 1797285236#32, wordPL key, wordPL ((key.drop 4).take 28), wordPL ((key.drop 8).take 24), wordPL ((key.drop 12).take 20), wordPL ((key.drop 16).take 16), 0, 0, 0, 0, 0, 0, 0]) rfl u32_one ti22 rfl rfl hm19.h0 (by simp) (.inl (Nat.zero_le _))) ?_
  rintro _ w20 uq20
  have hm20 := hm19.upd0 uq20
  refine rw_nil ?_
  refine kBlk_normal ?_
  refine CW.abs (fun g => g 0 = (agg u8 key) ∧ g 1 = (u32 counter) ∧ g 2 = (agg u8 nonce) ∧ g 3 = (ptr b3 0) ∧ g 5 = (ptr b5 0) ∧ g 6 = (ptr b6 0) ∧ g 7 = (i64 4) ∧ g 12 = (i64 4) ∧ g 13 = (bl true) ∧ True) ⟨s0, s1, s2, s3, s5, s6, rfl, rfl, rfl, trivial⟩ ?_
  rintro fr21 ⟨s0, s1, s2, s3, s5, s6, s7, s12, s13, _⟩
  refine cw_region ?_
  refine rw_q (v := (i64 5)) rfl (ev_i64_add (a := 4) (b := 1) s12 rfl (by omega) (by omega)) ?_
  refine rw_q rfl (ev_move (v := (i64 5)) rfl) ?_
  refine rw_nil ?_
  refine kThen_normal ?_
  refine cr_succ ?_
  refine cw_seq ?_
  refine cw_region ?_
  refine rw_q rfl (ev_i64_lss (a := 5) (b := 8) rfl rfl) ?_
  refine rw_nil ?_
  refine kThen_normal ?_
  refine cw_seq ?_
  refine cw_cond_t rfl (by decide) ?_
  refine cw_skip ?_
  refine kThen_normal ?_
  refine cw_seq ?_
  refine cw_block ?_
  refine cw_seq ?_
  refine cw_region ?_
  refine rw_q rfl (ev_move (v := (i64 5)) rfl) ?_
  refine rw_q rfl (ev_assign (v := (i64 5)) rfl) ?_
  refine rw_nil ?_
  refine kThen_normal ?_
  refine cw_region ?_
  refine rw_q rfl (ev_move (v := (i64 5)) rfl) ?_
  refine rw_q (v := (i64 9)) rfl (ev_i64_add (a := 4) (b := 5) rfl rfl (by omega) (by omega)) ?_
  refine rw_q rfl (ev_move (v := (i64 5)) rfl) ?_
  refine rw_q (v := (i64 20)) rfl (ev_i64_mul (a := 4) (b := 5) rfl rfl (by omega) (by omega)) ?_
  refine rw_q rfl (ev_slice_sla (i := 20) (j := 32) Try.underlying28 ti5 s3 (optI_some (k := .i64) (i := 20) rfl) (optI_none _ _) (by omega) (by first | omega | (simp only [List.length_set, List.length_append, List.length_replicate, List.length_map, List.length_cons, List.length_nil]; omega) | (simp; done) | (simp; omega)) (by first | omega | (simp only [List.length_set, List.length_append, List.length_replicate, List.length_map, List.length_cons, List.length_nil]; omega) | (simp; done) | (simp; omega))) ?_
  refine rw_c rfl (opR_call Try.func21 bd21 nm21 (args1 rfl) (c_word (sla b3 0 1 20 32 32) ((key.drop 20).take 12) _ (Rd.cast (l' := (key.drop 20).take 12) (Rd.sla hm20.h2 (by first | omega | (simp only [List.length_set, List.length_append, List.length_replicate, List.length_map, List.length_cons, List.length_nil]; omega) | (simp; done) | (simp; omega)) (by omega) (by first | omega | (simp only [List.length_set, List.length_append, List.length_replicate, List.length_map, List.length_cons, List.length_nil]; omega) | (simp; done) | (simp; omega)) (by first | omega | (simp only [List.length_set, List.length_append, List.length_replicate, List.length_map, List.length_cons, List.length_nil]; omega) | (simp; done) | (simp; omega))) rfl) (by first | omega | (simp only [List.length_set, List.length_append, List.length_replicate, List.length_map, List.length_cons, List.length_nil]; omega) | (simp; done) | (simp; omega)))) ?_
  rintro _ w22 ⟨rfl, _ew22⟩
  have hm22 := hm20.ext _ew22
  refine rw_q rfl (ev_ia_arr (r := 9) (i := 9) (by omega) Try.underlying43 ti22 s6 rfl (by omega) (by omega)) ?_
  refine rw_n (or_store_cl' (f := u32) (l' := [1634760805#32, 857760878#32, 2036477234#32, 1797285236#32, wordPL key, wordPL ((key.drop 4).take 28), wordPL ((key.drop 8).take 24), wordPL ((key.drop 12).take 20), wordPL ((key.drop 16).take 16), wordPL ((key.drop 20).take 12), 0, 0, 0, 0, 0, 0]) rfl u32_one ti22 rfl rfl hm22.h0 (by simp) (.inl (Nat.zero_le _))) ?_
  rintro _ w23 uq23
  have hm23 := hm22.upd0 uq23
  refine rw_nil ?_
  refine kBlk_normal ?_
  refine CW.abs (fun g => g 0 = (agg u8 key) ∧ g 1 = (u32 counter) ∧ g 2 = (agg u8 nonce) ∧ g 3 = (ptr b3 0) ∧ g 5 = (ptr b5 0) ∧ g 6 = (ptr b6 0) ∧ g 7 = (i64 5) ∧ g 12 = (i64 5) ∧ g 13 = (bl true) ∧ True) ⟨s0, s1, s2, s3, s5, s6, rfl, rfl, rfl, trivial⟩ ?_
  rintro fr24 ⟨s0, s1, s2, s3, s5, s6, s7, s12, s13, _⟩
  refine cw_region ?_
  refine rw_q (v := (i64 6)) rfl (ev_i64_add (a := 5) (b := 1) s12 rfl (by omega) (by omega)) ?_
  refine rw_q rfl (ev_move (v := (i64 6)) rfl) ?_
  refine rw_nil ?_
  refine kThen_normal ?_
  refine cr_succ ?_
  refine cw_seq ?_
  refine cw_region ?_
  refine rw_q rfl (ev_i64_lss (a := 6) (b := 8) rfl rfl) ?_
  refine rw_nil ?_
  refine kThen_normal ?_
  refine cw_seq ?_
  refine cw_cond_t rfl (by decide) ?_
  refine cw_skip ?_
  refine kThen_normal ?_
  refine cw_seq ?_
  refine cw_block ?_
  refine cw_seq ?_
  refine cw_region ?_
  refine rw_q rfl (ev_move (v := (i64 6)) rfl) ?_
  refine rw_q rfl (ev_assign (v := (i64 6)) rfl) ?_
  refine rw_nil ?_
  refine kThen_normal ?_
  refine cw_region ?_
  refine rw_q rfl (ev_move (v := (i64 6)) rfl) ?_
  refine rw_q (v := (i64 10)) rfl (ev_i64_add (a := 4) (b := 6) rfl rfl (by omega) (by omega)) ?_
  refine rw_q rfl (ev_move (v := (i64 6)) rfl) ?_
  refine rw_q (v := (i64 24)) rfl (ev_i64_mul (a := 4) (b := 6) rfl rfl (by omega) (by omega)) ?_
  refine rw_q rfl (ev_slice_sla (i := 24) (j := 32) Try.underlying28 ti5 s3 (optI_some (k := .i64) (i := 24) rfl) (optI_none _ _) (by omega) (by first | omega | (simp only [List.length_set, List.length_append, List.length_replicate, List.length_map, List.length_cons, List.length_nil]; omega) | (simp; done) | (simp; omega)) (by first | omega | (simp only [List.length_set, List.length_append, List.length_replicate, List.length_map, List.length_cons, List.length_nil]; omega) | (simp; done) | (simp; omega))) ?_
  refine rw_c rfl (opR_call Try.func21 bd21 nm21 (args1 rfl) (c_word (sla b3 0 1 24 32 32) ((key.drop 24).take 8) _ (Rd.cast (l' := (key.drop 24).take 8) (Rd.sla hm23.h2 (by first | omega | (simp only [List.length_set, List.length_append, List.length_replicate, List.length_map, List.length_cons, List.length_nil]; omega) | (simp; done) | (simp; omega)) (by omega) (by first | omega | (simp only [List.length_set, List.length_append, List.length_replicate, List.length_map, List.length_cons, List.length_nil]; omega) | (simp; done) | (simp; omega)) (by first | omega | (simp only [List.length_set, List.length_append, List.length_replicate, List.length_map, List.length_cons, List.length_nil]; omega) | (simp; done) | (simp; omega))) rfl) (by first | omega | (simp only [List.length_set, List.length_append, List.length_replicate, List.length_map, List.length_cons, List.length_nil]; omega) | (simp; done) | (simp; omega)))) ?_
  rintro _ w25 ⟨rfl, _ew25⟩
  have hm25 := hm23.ext _ew25
  refine rw_q rfl (ev_ia_arr (r := 10) (i := 10) (by omega) Try.underlying43 ti22 s6 rfl (by omega) (by omega)) ?_
  refine rw_n (or_store_cl' (f := u32) (l' := [1634760805#32, 857760878#32, 2036477234#32, 1797285236#32, wordPL key, wordPL ((key.drop 4).take 28), wordPL ((key.drop 8).take 24), wordPL ((key.drop 12).take 20), wordPL ((key.drop 16).take 16), wordPL ((key.drop 20).take 12), wordPL ((key.drop 24).take 8), 0, 0, 0, 0, 0]) rfl u32_one ti22 rfl rfl hm25.h0 (by simp) (.inl (Nat.zero_le _))) ?_
  rintro _ w26 uq26
  have hm26 := hm25.upd0 uq26
  refine rw_nil ?_
  refine kBlk_normal ?_
  refine CW.abs (fun g => g 0 = (agg u8 key) ∧ g 1 = (u32 counter) ∧ g 2 = (agg u8 nonce) ∧ g 3 = (ptr b3 0) ∧ g 5 = (ptr b5 0) ∧ g 6 = (ptr b6 0) ∧ g 7 = (i64 6) ∧ g 12 = (i64 6) ∧ g 13 = (bl true) ∧ True) ⟨s0, s1, s2, s3, s5, s6, rfl, rfl, rfl, trivial⟩ ?_
  rintro fr27 ⟨s0, s1, s2, s3, s5, s6, s7, s12, s13, _⟩
  refine cw_region ?_
  refine rw_q (v := (i64 7)) rfl (ev_i64_add (a := 6) (b := 1) s12 rfl (by omega) (by omega)) ?_
  refine rw_q rfl (ev_move (v := (i64 7)) rfl) ?_
  refine rw_nil ?_
  refine kThen_normal ?_
  refine cr_succ ?_
  refine cw_seq ?_
  refine cw_region ?_
  refine rw_q rfl (ev_i64_lss (a := 7) (b := 8) rfl rfl) ?_
  refine rw_nil ?_
  refine kThen_normal ?_
  refine cw_seq ?_
  refine cw_cond_t rfl (by decide) ?_
  refine cw_skip ?_
  refine kThen_normal ?_
  refine cw_seq ?_
  refine cw_block ?_
  refine cw_seq ?_
  refine cw_region ?_
  refine rw_q rfl (ev_move (v := (i64 7)) rfl) ?_
  refine rw_q rfl (ev_assign (v := (i64 7)) rfl) ?_
  refine rw_nil ?_
  refine kThen_normal ?_
  refine cw_region ?_
  refine rw_q rfl (ev_move (v := (i64 7)) rfl) ?_
  refine rw_q (v := (i64 11)) rfl (ev_i64_add (a := 4) (b := 7) rfl rfl (by omega) (by omega)) ?_
  refine rw_q rfl (ev_move (v := (i64 7)) rfl) ?_
  refine rw_q (v := (i64 28)) rfl (ev_i64_mul (a := 4) (b := 7) rfl rfl (by omega) (by omega)) ?_
  refine rw_q rfl (ev_slice_sla (i := 28) (j := 32) Try.underlying28 ti5 s3 (optI_some (k := .i64) (i := 28) rfl) (optI_none _ _) (by omega) (by first | omega | (simp only [List.length_set, List.length_append, List.length_replicate, List.length_map, List.length_cons, List.length_nil]; omega) | (simp; done) | (simp; omega)) (by first | omega | (simp only [List.length_set, List.length_append, List.length_replicate, List.length_map, List.length_cons, List.length_nil]; omega) | (simp; done) | (simp; omega))) ?_
  refine rw_c rfl (opR_call Try.func21 bd21 nm21 (args1 rfl) (c_word (sla b3 0 1 28 32 32) ((key.drop 28).take 4) _ (Rd.cast (l' := (key.drop 28).take 4) (Rd.sla hm26.h2 (by first | omega | (simp only [List.length_set, List.length_append, List.length_replicate, List.length_map, List.length_cons, List.length_nil]; omega) | (simp; done) | (simp; omega)) (by omega) (by first | omega | (simp only [List.length_set, List.length_append, List.length_replicate, List.length_map, List.length_cons, List.length_nil]; omega) | (simp; done) | (simp; omega)) (by first | omega | (simp only [List.length_set, List.length_append, List.length_replicate, List.length_map, List.length_cons, List.length_nil]; omega) | (simp; done) | (simp; omega))) rfl) (by first | omega | (simp only [List.length_set, List.length_append, List.length_replicate, List.length_map, List.length_cons, List.length_nil]; omega) | (simp; done) | (simp; omega)))) ?_
  rintro _ w28 ⟨rfl, _ew28⟩
  have hm28 := hm26.ext _ew28
  refine rw_q rfl (ev_ia_arr (r := 11) (i := 11) (by omega) Try.underlying43 ti22 s6 rfl (by omega) (by omega)) ?_
  refine rw_n (or_store_cl' (f := u32) (l' := [1634760805#32, 857760878#32, 2036477234#32, 1797285236#32, wordPL key, wordPL ((key.drop 4).take 28), wordPL ((key.drop 8).take 24), wordPL ((key.drop 12).take 20), wordPL ((key.drop 16).take 16), wordPL ((key.drop 20).take 12), wordPL ((key.drop 24).take 8), wordPL ((key.drop 28).take 4), 0, 0, 0, 0]) rfl u32_one ti22 rfl rfl hm28.h0 (by simp) (.inl (Nat.zero_le _))) ?_
  rintro _ w29 uq29
  have hm29 := hm28.upd0 uq29
  refine rw_nil ?_
  refine kBlk_normal ?_
  refine CW.abs (fun g => g 0 = (agg u8 key) ∧ g 1 = (u32 counter) ∧ g 2 = (agg u8 nonce) ∧ g 3 = (ptr b3 0) ∧ g 5 = (ptr b5 0) ∧ g 6 = (ptr b6 0) ∧ g 7 = (i64 7) ∧ g 12 = (i64 7) ∧ g 13 = (bl true) ∧ True) ⟨s0, s1, s2, s3, s5, s6, rfl, rfl, rfl, trivial⟩ ?_
  rintro fr30 ⟨s0, s1, s2, s3, s5, s6, s7, s12, s13, _⟩
  refine cw_region ?_
  refine rw_q (v := (i64 8)) rfl (ev_i64_add (a := 7) (b := 1) s12 rfl (by omega) (by omega)) ?_
  refine rw_q rfl (ev_move (v := (i64 8)) rfl) ?_
  refine rw_nil ?_
  refine kThen_normal ?_
  refine cr_succ ?_
  refine cw_seq ?_
  refine cw_region ?_
  refine rw_q rfl (ev_i64_lss (a := 8) (b := 8) rfl rfl) ?_
  refine rw_nil ?_
  refine kThen_normal ?_
  refine cw_seq ?_
  refine cw_cond_f rfl (by decide) ?_
  refine cw_exit ?_
  refine kThen_exit (kThen_exit (kBlk_hit ?_))
  refine cw_seq ?_
  refine cw_region ?_
  refine rw_q rfl (ev_move (v := (u32 counter)) s1) ?_
  refine rw_q rfl (ev_ia_arr (r := 12) (i := 12) (by omega) Try.underlying43 ti22 s6 rfl (by omega) (by omega)) ?_
  refine rw_n (or_store_cl' (f := u32) (l' := [1634760805#32, 857760878#32, 2036477234#32, 1797285236#32, wordPL key, wordPL ((key.drop 4).take 28), wordPL ((key.drop 8).take 24), wordPL ((key.drop 12).take 20), wordPL ((key.drop 16).take 16), wordPL ((key.drop 20).take 12), wordPL ((key.drop 24).take 8), wordPL ((key.drop 28).take 4), counter, 0, 0, 0]) rfl u32_one ti22 rfl rfl hm29.h0 (by simp) (.inl (Nat.zero_le _))) ?_
  rintro _ w31 uq31
  have hm31 := hm29.upd0 uq31
  refine rw_nil ?_
  refine kThen_normal ?_
  refine cw_seq ?_
  refine cw_seq ?_
  refine cw_region ?_
  refine rw_q rfl (ev_move (v := (i64 0)) rfl) ?_
  refine rw_nil ?_
  refine kThen_normal ?_
  refine cw_block ?_
  refine cw_rounds 4 ?_
  refine cr_succ ?_
  refine cw_seq ?_
  refine cw_region ?_
  refine rw_q rfl (ev_i64_lss (a := 0) (b := 3) rfl rfl) ?_
  refine rw_nil ?_
  refine kThen_normal ?_
  refine cw_seq ?_
  refine cw_cond_t rfl (by decide) ?_
  refine cw_skip ?_
  refine kThen_normal ?_
  refine cw_seq ?_
  refine cw_block ?_
  refine cw_seq ?_
  refine cw_region ?_
  refine rw_q rfl (ev_move (v := (i64 0)) rfl) ?_
  refine rw_q rfl (ev_assign (v := (i64 0)) rfl) ?_
  refine rw_nil ?_
  refine kThen_normal ?_
  refine cw_region ?_
  refine rw_q rfl (ev_move (v := (i64 0)) rfl) ?_
  refine rw_q (v := (i64 13)) rfl (ev_i64_add (a := 13) (b := 0) rfl rfl (by omega) (by omega)) ?_
  refine rw_q rfl (ev_move (v := (i64 0)) rfl) ?_
  refine rw_q (v := (i64 0)) rfl (ev_i64_mul (a := 4) (b := 0) rfl rfl (by omega) (by omega)) ?_
  refine rw_q rfl (ev_slice_sla (i := 0) (j := 12) Try.underlying30 ti5 s5 (optI_some (k := .i64) (i := 0) rfl) (optI_none _ _) (by omega) (by first | omega | (simp only [List.length_set, List.length_append, List.length_replicate, List.length_map, List.length_cons, List.length_nil]; omega) | (simp; done) | (simp; omega)) (by first | omega | (simp only [List.length_set, List.length_append, List.length_replicate, List.length_map, List.length_cons, List.length_nil]; omega) | (simp; done) | (simp; omega))) ?_
  refine rw_c rfl (opR_call Try.func21 bd21 nm21 (args1 rfl) (c_word (sla b5 0 1 0 12 12) nonce _ (Rd.slaAll hm31.h1 (by first | omega | (simp only [List.length_set, List.length_append, List.length_replicate, List.length_map, List.length_cons, List.length_nil]; omega) | (simp; done) | (simp; omega))) (by first | omega | (simp only [List.length_set, List.length_append, List.length_replicate, List.length_map, List.length_cons, List.length_nil]; omega) | (simp; done) | (simp; omega)))) ?_
  rintro _ w32 ⟨rfl, _ew32⟩
  have hm32 := hm31.ext _ew32
  refine rw_q rfl (ev_ia_arr (r := 13) (i := 13) (by omega) Try.underlying43 ti22 s6 rfl (by omega) (by omega)) ?_
  refine rw_n (or_store_cl' (f := u32) (l' := [1634760805#32, 857760878#32, 2036477234#32, 1797285236#32, wordPL key, wordPL ((key.drop 4).take 28), wordPL ((key.drop 8).take 24), wordPL ((key.drop 12).take 20), wordPL ((key.drop 16).take 16), wordPL ((key.drop 20).take 12), wordPL ((key.drop 24).take 8), wordPL ((key.drop 28).take 4), counter, wordPL nonce, 0, 0]) rfl u32_one ti22 rfl rfl hm32.h0 (by simp) (.inl (Nat.zero_le _))) ?_
  rintro _ w33 uq33
  have hm33 := hm32.upd0 uq33
  refine rw_nil ?_
  refine kBlk_normal ?_
  refine CW.abs (fun g => g 0 = (agg u8 key) ∧ g 1 = (u32 counter) ∧ g 2 = (agg u8 nonce) ∧ g 3 = (ptr b3 0) ∧ g 5 = (ptr b5 0) ∧ g 6 = (ptr b6 0) ∧ g 7 = (i64 7) ∧ g 8 = (i64 0) ∧ g 12 = (i64 8) ∧ g 13 = (bl false) ∧ g 25 = (i64 0) ∧ g 26 = (bl true) ∧ True) ⟨s0, s1, s2, s3, s5, s6, s7, rfl, rfl, rfl, rfl, rfl, trivial⟩ ?_
  rintro fr34 ⟨s0, s1, s2, s3, s5, s6, s7, s8, s12, s13, s25, s26, _⟩
  refine cw_region ?_
  refine rw_q (v := (i64 1)) rfl (ev_i64_add (a := 0) (b := 1) s25 rfl (by omega) (by omega)) ?_
  refine rw_q rfl (ev_move (v := (i64 1)) rfl) ?_
  refine rw_nil ?_
  refine kThen_normal ?_
  refine cr_succ ?_
  refine cw_seq ?_
  refine cw_region ?_
  refine rw_q rfl (ev_i64_lss (a := 1) (b := 3) rfl rfl) ?_
  refine rw_nil ?_
  refine kThen_normal ?_
  refine cw_seq ?_
  refine cw_cond_t rfl (by decide) ?_
  refine cw_skip ?_
  refine kThen_normal ?_
  refine cw_seq ?_
  refine cw_block ?_
  refine cw_seq ?_
  refine cw_region ?_
  refine rw_q rfl (ev_move (v := (i64 1)) rfl) ?_
  refine rw_q rfl (ev_assign (v := (i64 1)) rfl) ?_
  refine rw_nil ?_
  refine kThen_normal ?_
  refine cw_region ?_
  refine rw_q rfl (ev_move (v := (i64 1)) rfl) ?_
  refine rw_q (v := (i64 14)) rfl (ev_i64_add (a := 13) (b := 1) rfl rfl (by omega) (by omega)) ?_
  refine rw_q rfl (ev_move (v := (i64 1)) rfl) ?_
  refine rw_q (v := (i64 4)) rfl (ev_i64_mul (a := 4) (b := 1) rfl rfl (by omega) (by omega)) ?_
  refine rw_q rfl (ev_slice_sla (i := 4) (j := 12) Try.underlying30 ti5 s5 (optI_some (k := .i64) (i := 4) rfl) (optI_none _ _) (by omega) (by first | omega | (simp only [List.length_set, List.length_append, List.length_replicate, List.length_map, List.length_cons, List.length_nil]; omega) | (simp; done) | (simp; omega)) (by first | omega | (simp only [List.length_set, List.length_append, List.length_replicate, List.length_map, List.length_cons, List.length_nil]; omega) | (simp; done) | (simp; omega))) ?_
  refine rw_c rfl (opR_call Try.func21 bd21 nm21 (args1 rfl) (c_word (sla b5 0 1 4 12 12) ((nonce.drop 4).take 8) _ (Rd.cast (l' := (nonce.drop 4).take 8) (Rd.sla hm33.h1 (by first | omega | (simp only [List.length_set, List.length_append, List.length_replicate, List.length_map, List.length_cons, List.length_nil]; omega) | (simp; done) | (simp; omega)) (by omega) (by first | omega | (simp only [List.length_set, List.length_append, List.length_replicate, List.length_map, List.length_cons, List.length_nil]; omega) | (simp; done) | (simp; omega)) (by first | omega | (simp only [List.length_set, List.length_append, List.length_replicate, List.length_map, List.length_cons, List.length_nil]; omega) | (simp; done) | (simp; omega))) rfl) (by first | omega | (simp only [List.length_set, List.length_append, List.length_replicate, List.length_map, List.length_cons, List.length_nil]; omega) | (simp; done) | (simp; omega)))) ?_
  rintro _ w35 ⟨rfl, _ew35⟩
  have hm35 := hm33.ext _ew35
  refine rw_q rfl (ev_ia_arr (r := 14) (i := 14) (by omega) Try.underlying43 ti22 s6 rfl (by omega) (by omega)) ?_
  refine rw_n (or_store_cl' (f := u32) (l' := [1634760805#32, 857760878#32, 2036477234#32, 1797285236#32, wordPL key, wordPL ((key.drop 4).take 28), wordPL ((key.drop 8).take 24), wordPL ((key.drop 12).take 20), wordPL ((key.drop 16).take 16), wordPL ((key.drop 20).take 12), wordPL ((key.drop 24).take 8), wordPL ((key.drop 28).take 4), counter, wordPL nonce, wordPL ((nonce.drop 4).take 8), 0]) rfl u32_one ti22 rfl rfl hm35.h0 (by simp) (.inl (Nat.zero_le _))) ?_
  rintro _ w36 uq36
  have hm36 := hm35.upd0 uq36
  refine rw_nil ?_
  refine kBlk_normal ?_
  refine CW.abs (fun g => g 0 = (agg u8 key) ∧ g 1 = (u32 counter) ∧ g 2 = (agg u8 nonce) ∧ g 3 = (ptr b3 0) ∧ g 5 = (ptr b5 0) ∧ g 6 = (ptr b6 0) ∧ g 7 = (i64 7) ∧ g 8 = (i64 1) ∧ g 12 = (i64 8) ∧ g 13 = (bl false) ∧ g 25 = (i64 1) ∧ g 26 = (bl true) ∧ True) ⟨s0, s1, s2, s3, s5, s6, s7, rfl, s12, s13, rfl, rfl, trivial⟩ ?_
  rintro fr37 ⟨s0, s1, s2, s3, s5, s6, s7, s8, s12, s13, s25, s26, _⟩
  refine cw_region ?_
  refine rw_q (v := (i64 2)) rfl (ev_i64_add (a := 1) (b := 1) s25 rfl (by omega) (by omega)) ?_
  refine rw_q rfl (ev_move (v := (i64 2)) rfl) ?_
  refine rw_nil ?_
  refine kThen_normal ?_
  refine cr_succ ?_
  refine cw_seq ?_
  refine cw_region ?_
  refine rw_q rfl (ev_i64_lss (a := 2) (b := 3) rfl rfl) ?_
  refine rw_nil ?_
  refine kThen_normal ?_
  refine cw_seq ?_
  refine cw_cond_t rfl (by decide) ?_
  refine cw_skip ?_
  refine kThen_normal ?_
  refine cw_seq ?_
  refine cw_block ?_
  refine cw_seq ?_
  refine cw_region ?_
  refine rw_q rfl (ev_move (v := (i64 2)) rfl) ?_
  refine rw_q rfl (ev_assign (v := (i64 2)) rfl) ?_
  refine rw_nil ?_
  refine kThen_normal ?_
  refine cw_region ?_
  refine rw_q rfl (ev_move (v := (i64 2)) rfl) ?_
  refine rw_q (v := (i64 15)) rfl (ev_i64_add (a := 13) (b := 2) rfl rfl (by omega) (by omega)) ?_
  refine rw_q rfl (ev_move (v := (i64 2)) rfl) ?_
  refine rw_q (v := (i64 8)) rfl (ev_i64_mul (a := 4) (b := 2) rfl rfl (by omega) (by omega)) ?_
  refine rw_q rfl (ev_slice_sla (i := 8) (j := 12) Try.underlying30 ti5 s5 (optI_some (k := .i64) (i := 8) rfl) (optI_none _ _) (by omega) (by first | omega | (simp only [List.length_set, List.length_append, List.length_replicate, List.length_map, List.length_cons, List.length_nil]; omega) | (simp; done) | (simp; omega)) (by first | omega | (simp only [List.length_set, List.length_append, List.length_replicate, List.length_map, List.length_cons, List.length_nil]; omega) | (simp; done) | (simp; omega))) ?_
  refine rw_c rfl (opR_call Try.func21 bd21 nm21 (args1 rfl) (c_word (sla b5 0 1 8 12 12) ((nonce.drop 8).take 4) _ (Rd.cast (l' := (nonce.drop 8).take 4) (Rd.sla hm36.h1 (by first | omega | (simp only [List.length_set, List.length_append, List.length_replicate, List.length_map, List.length_cons, List.length_nil]; omega) | (simp; done) | (simp; omega)) (by omega) (by first | omega | (simp only [List.length_set, List.length_append, List.length_replicate, List.length_map, List.length_cons, List.length_nil]; omega) | (simp; done) | (simp; omega)) (by first | omega | (simp only [List.length_set, List.length_append, List.length_replicate, List.length_map, List.length_cons, List.length_nil]; omega) | (simp; done) | (simp; omega))) rfl) (by first | omega | (simp only [List.length_set, List.length_append, List.length_replicate, List.length_map, List.length_cons, List.length_nil]; omega) | (simp; done) | (simp; omega)))) ?_
  rintro _ w38 ⟨rfl, _ew38⟩
  have hm38 := hm36.ext _ew38
  refine rw_q rfl (ev_ia_arr (r := 15) (i := 15) (by omega) Try.underlying43 ti22 s6 rfl (by omega) (by omega)) ?_
  refine rw_n (or_store_cl' (f := u32) (l' := [1634760805#32, 857760878#32, 2036477234#32, 1797285236#32, wordPL key, wordPL ((key.drop 4).take 28), wordPL ((key.drop 8).take 24), wordPL ((key.drop 12).take 20), wordPL ((key.drop 16).take 16), wordPL ((key.drop 20).take 12), wordPL ((key.drop 24).take 8), wordPL ((key.drop 28).take 4), counter, wordPL nonce, wordPL ((nonce.drop 4).take 8), wordPL ((nonce.drop 8).take 4)]) rfl u32_one ti22 rfl rfl hm38.h0 (by simp) (.inl (Nat.zero_le _))) ?_
  rintro _ w39 uq39
  have hm39 := hm38.upd0 uq39
  refine rw_nil ?_
  refine kBlk_normal ?_
  refine CW.abs (fun g => g 0 = (agg u8 key) ∧ g 1 = (u32 counter) ∧ g 2 = (agg u8 nonce) ∧ g 3 = (ptr b3 0) ∧ g 5 = (ptr b5 0) ∧ g 6 = (ptr b6 0) ∧ g 7 = (i64 7) ∧ g 8 = (i64 2) ∧ g 12 = (i64 8) ∧ g 13 = (bl false) ∧ g 25 = (i64 2) ∧ g 26 = (bl true) ∧ True) ⟨s0, s1, s2, s3, s5, s6, s7, rfl, s12, s13, rfl, rfl, trivial⟩ ?_
  rintro fr40 ⟨s0, s1, s2, s3, s5, s6, s7, s8, s12, s13, s25, s26, _⟩
  refine cw_region ?_
  refine rw_q (v := (i64 3)) rfl (ev_i64_add (a := 2) (b := 1) s25 rfl (by omega) (by omega)) ?_
  refine rw_q rfl (ev_move (v := (i64 3)) rfl) ?_
  refine rw_nil ?_
  refine kThen_normal ?_
  refine cr_succ ?_
  refine cw_seq ?_
  refine cw_region ?_
  refine rw_q rfl (ev_i64_lss (a := 3) (b := 3) rfl rfl) ?_
  refine rw_nil ?_
  refine kThen_normal ?_
  refine cw_seq ?_
  refine cw_cond_f rfl (by decide) ?_
  refine cw_exit ?_
  refine kThen_exit (kThen_exit (kBlk_hit ?_))
  refine cw_seq ?_
  refine cw_region ?_
  refine rw_q (v := (agg u32 ([1634760805#32, 857760878#32, 2036477234#32, 1797285236#32, wordPL key, wordPL ((key.drop 4).take 28), wordPL ((key.drop 8).take 24), wordPL ((key.drop 12).take 20), wordPL ((key.drop 16).take 16), wordPL ((key.drop 20).take 12), wordPL ((key.drop 24).take 8), wordPL ((key.drop 28).take 4), counter, wordPL nonce, wordPL ((nonce.drop 4).take 8), wordPL ((nonce.drop 8).take 4)]))) rfl (ev_loadA Try.underlying43 rfl ti43 s6 hm39.h0 (by rw [size_cl]; first | omega | (simp only [List.length_set, List.length_append, List.length_replicate, List.length_map, List.length_cons, List.length_nil]; omega) | (simp; done) | (simp; omega))) ?_
  refine rw_n (or_store_agg (f := u32) (l := [1634760805#32, 857760878#32, 2036477234#32, 1797285236#32, wordPL key, wordPL ((key.drop 4).take 28), wordPL ((key.drop 8).take 24), wordPL ((key.drop 12).take 20), wordPL ((key.drop 16).take 16), wordPL ((key.drop 20).take 12), wordPL ((key.drop 24).take 8), wordPL ((key.drop 28).take 4), counter, wordPL nonce, wordPL ((nonce.drop 4).take 8), wordPL ((nonce.drop 8).take 4)]) u32_one ti43 s6 rfl (by first | omega | (simp only [List.length_set, List.length_append, List.length_replicate, List.length_map, List.length_cons, List.length_nil]; omega) | (simp; done) | (simp; omega)) hm39.h0 (by rw [size_cl]; first | omega | (simp only [List.length_set, List.length_append, List.length_replicate, List.length_map, List.length_cons, List.length_nil]; omega) | (simp; done) | (simp; omega)) rfl) ?_
  rintro _ w41 uq41
  have hm41 := hm39.upd0 uq41
  refine rw_nil ?_
  refine kThen_normal ?_
  refine cw_ret ?_
  refine fnPost_ret [(agg u32 ([1634760805#32, 857760878#32, 2036477234#32, 1797285236#32, wordPL key, wordPL ((key.drop 4).take 28), wordPL ((key.drop 8).take 24), wordPL ((key.drop 12).take 20), wordPL ((key.drop 16).take 16), wordPL ((key.drop 20).take 12), wordPL ((key.drop 24).take 8), wordPL ((key.drop 28).take 4), counter, wordPL nonce, wordPL ((nonce.drop 4).take 8), wordPL ((nonce.drop 8).take 4)]))] ⟨⟨_, s6, loadVar_run Try.underlying43 rfl ti43 hm41.h0 (by rw [size_cl]; first | omega | (simp only [List.length_set, List.length_append, List.length_replicate, List.length_map, List.length_cons, List.length_nil]; omega) | (simp; done) | (simp; omega))⟩, trivial⟩ ?_
  exact ⟨rfl, hm41.toExt⟩

theorem c_block (key : List (BitVec 8)) (counter : BitVec 32) (nonce : List (BitVec 8)) (w0 : World)  (hk : key.length = 32) (hn : nonce.length = 12) : CallsR Try.prog 9 #[(agg u8 key), (u32 counter), (agg u8 nonce)] w0 (fun r w1 => r = (agg u8 (blockP key counter nonce)) ∧ Ext w0 w1) := by
  refine callsR_of_cw (args := [(agg u8 key), (u32 counter), (agg u8 nonce)]) Try.func9 rfl Try.ntmps9 Try.results9 rfl ?_
  have hm0 : Mem w0 (restOf w0) [] := Mem.of_world w0
  refine cw_seq ?_
  refine cw_region ?_
  refine rw_c rfl (or_box_agg (f := u8) (l := key) hm0 rfl) ?_
  rintro _ w1 ⟨b3, rfl, _ew1, hm1⟩
  refine rw_c rfl (or_box_agg (f := u8) (l := nonce) hm1 rfl) ?_
  rintro _ w2 ⟨b5, rfl, _ew2, hm2⟩
  refine rw_c rfl (or_alloc_agg hm2 ti31) ?_
  rintro _ w3 ⟨b6, rfl, _ew3, hm3⟩
  refine rw_nil ?_
  refine kThen_normal ?_
  refine cw_seq ?_
  refine cw_region ?_
  refine rw_q (v := (agg u8 key)) rfl (ev_loadA Try.underlying28 rfl ti28 rfl hm3.h2 (by rw [size_cl]; first | omega | (simp only [List.length_set, List.length_append, List.length_replicate, List.length_map, List.length_cons, List.length_nil]; omega) | (simp; done) | (simp; omega))) ?_
  refine rw_q rfl (ev_move (v := (u32 counter)) rfl) ?_
  refine rw_q (v := (agg u8 nonce)) rfl (ev_loadA Try.underlying30 rfl ti30 rfl hm3.h1 (by rw [size_cl]; first | omega | (simp only [List.length_set, List.length_append, List.length_replicate, List.length_map, List.length_cons, List.length_nil]; omega) | (simp; done) | (simp; omega))) ?_
  refine rw_c rfl (opR_call Try.func16 bd16 nm16 (args3 rfl rfl rfl) (c_begin key counter nonce _ (by first | omega | (simp only [List.length_set, List.length_append, List.length_replicate, List.length_map, List.length_cons, List.length_nil]; omega) | (simp; done) | (simp; omega)) (by first | omega | (simp only [List.length_set, List.length_append, List.length_replicate, List.length_map, List.length_cons, List.length_nil]; omega) | (simp; done) | (simp; omega)))) ?_
  rintro _ w4 ⟨rfl, _ew4⟩
  have hm4 := hm3.ext _ew4
  refine rw_c rfl (or_alloc_agg hm4 ti43) ?_
  rintro _ w5 ⟨b7, rfl, _ew5, hm5⟩
  refine rw_n (or_store_agg (f := u32) (l := beginP wordPL key counter nonce) u32_one ti43 rfl rfl (by first | omega | (simp only [List.length_set, List.length_append, List.length_replicate, List.length_map, List.length_cons, List.length_nil]; omega) | (simp; done) | (simp; omega)) hm5.h0 (by rw [size_cl]; first | omega | (simp only [List.length_set, List.length_append, List.length_replicate, List.length_map, List.length_cons, List.length_nil]; omega) | (simp; done) | (simp; omega)) rfl) ?_
  rintro _ w6 uq6
  have hm6 := hm5.upd0 uq6
  refine rw_nil ?_
  refine kThen_normal ?_
  refine cw_seq ?_
  refine cw_region ?_
  refine rw_q (v := (agg u32 (beginP wordPL key counter nonce))) rfl (ev_loadA Try.underlying43 rfl ti43 rfl hm6.h0 (by rw [size_cl]; first | omega | (simp only [List.length_set, List.length_append, List.length_replicate, List.length_map, List.length_cons, List.length_nil]; omega) | (simp; done) | (simp; omega))) ?_
  refine rw_c rfl (or_alloc_agg hm6 ti43) ?_
  rintro _ w7 ⟨b8, rfl, _ew7, hm7⟩
  refine rw_n (or_store_agg (f := u32) (l := beginP wordPL key counter nonce) u32_one ti43 rfl rfl (by first | omega | (simp only [List.length_set, List.length_append, List.length_replicate, List.length_map, List.length_cons, List.length_nil]; omega) | (simp; done) | (simp; omega)) hm7.h0 (by rw [size_cl]; first | omega | (simp only [List.length_set, List.length_append, List.length_replicate, List.length_map, List.length_cons, List.length_nil]; omega) | (simp; done) | (simp; omega)) rfl) ?_
  rintro _ w8 uq8
  have hm8 := hm7.upd0 uq8
  refine rw_nil ?_
  refine kThen_normal ?_
  refine cw_seq ?_
  refine cw_seq ?_
  refine cw_region ?_
  refine rw_q rfl (ev_move (v := (i64 0)) rfl) ?_
  refine rw_nil ?_
  refine kThen_normal ?_
  refine CW.abs (fun g => g 0 = (agg u8 key) ∧ g 1 = (u32 counter) ∧ g 2 = (agg u8 nonce) ∧ g 3 = (ptr b3 0) ∧ g 5 = (ptr b5 0) ∧ g 6 = (ptr b6 0) ∧ g 7 = (ptr b7 0) ∧ g 8 = (ptr b8 0) ∧ g 17 = (i64 0) ∧ True) ⟨rfl, rfl, rfl, rfl, rfl, rfl, rfl, rfl, rfl, trivial⟩ ?_
  rintro fr9 ⟨s0, s1, s2, s3, s5, s6, s7, s8, s17, _⟩
  refine cw_block ?_
  refine cw_loop (fun g wv => ∃ (k : Nat), (k ≤ 10) ∧ g 0 = (agg u8 key) ∧ g 1 = (u32 counter) ∧ g 2 = (agg u8 nonce) ∧ g 3 = (ptr b3 0) ∧ g 5 = (ptr b5 0) ∧ g 6 = (ptr b6 0) ∧ g 7 = (ptr b7 0) ∧ g 8 = (ptr b8 0) ∧ g 17 = (i64 (k : Int)) ∧ Mem wv (restOf w0) [(b8, .cells (cl u32 (rounds dbl k (beginP wordPL key counter nonce))) 43 (0, 0)), (b7, .cells (cl u32 (beginP wordPL key counter nonce)) 43 (0, 0)), (b6, .cells (cl u8 (List.replicate 64 0)) 31 (0, 0)), (b5, .cells (cl u8 nonce) 30 (0, 0)), (b3, .cells (cl u8 key) 28 (0, 0))]) (fun g _ => (10 - RowKit.intOf (g 17)).toNat) ?_ ?_
  · exact ⟨0, (by omega), s0, s1, s2, s3, s5, s6, s7, s8, s17, hm8⟩
  · rintro fr10 w11 ⟨k, hk1, s0, s1, s2, s3, s5, s6, s7, s8, s17, hm11⟩
    have z17 := s17
    refine cw_seq ?_
    refine cw_region ?_
    refine rw_q rfl (ev_i64_lss (b := 10) s17 rfl) ?_
    refine rw_nil ?_
    refine kThen_normal ?_
    refine cw_seq ?_
    refine cw_cond rfl (fun hc12 => ?_) (fun hc12 => ?_)
    · -- true
      have hc12p := of_decide_eq_true hc12
      refine cw_skip ?_
      refine kThen_normal ?_
      refine cw_seq ?_
      refine cw_block ?_
      refine cw_seq ?_
      refine cw_seq ?_
      refine cw_region ?_
      refine rw_q rfl (ev_move (v := (i64 0)) rfl) ?_
      refine rw_nil ?_
      refine kThen_normal ?_
      refine cw_block ?_
      refine cw_rounds 5 ?_
      refine cr_succ ?_
      refine cw_seq ?_
      refine cw_region ?_
      refine rw_q rfl (ev_i64_lss (a := 0) (b := 4) rfl rfl) ?_
      refine rw_nil ?_
      refine kThen_normal ?_
      refine cw_seq ?_
      refine cw_cond_t rfl (by decide) ?_
      refine cw_skip ?_
      refine kThen_normal ?_
      refine cw_seq ?_
      refine cw_block ?_
      refine cw_seq ?_
      refine cw_region ?_
      refine rw_q rfl (ev_move (v := (i64 0)) rfl) ?_
      refine rw_q rfl (ev_assign (v := (i64 0)) rfl) ?_
      refine rw_nil ?_
      refine kThen_normal ?_
      refine cw_region ?_
      refine rw_q rfl (ev_move (v := (i64 0)) rfl) ?_
      refine rw_q rfl (ev_move (v := (i64 0)) rfl) ?_
      refine rw_q (v := (i64 4)) rfl (ev_i64_add (a := 4) (b := 0) rfl rfl (by omega) (by omega)) ?_
      refine rw_q rfl (ev_move (v := (i64 0)) rfl) ?_
      refine rw_q (v := (i64 8)) rfl (ev_i64_add (a := 8) (b := 0) rfl rfl (by omega) (by omega)) ?_
      refine rw_q rfl (ev_move (v := (i64 0)) rfl) ?_
      refine rw_q (v := (i64 12)) rfl (ev_i64_add (a := 12) (b := 0) rfl rfl (by omega) (by omega)) ?_
      refine rw_q rfl (ev_build_cl i64 [0, 4, 8, 12] i64_one ti40 Try.underlying40 ti3 rfl rfl) ?_
      refine rw_c rfl (opR_call Try.func17 bd17 nm17 (args2 s8 rfl) (c_squarter b8 (rounds dbl k (beginP wordPL key counter nonce)) (0 : Int) (4 : Int) (8 : Int) (12 : Int) _ _ (Mem.give (show Mem _ _ ([(b8, .cells (cl u32 (rounds dbl k (beginP wordPL key counter nonce))) 43 (0, 0))] ++ ([(b7, .cells (cl u32 (beginP wordPL key counter nonce)) 43 (0, 0)), (b6, .cells (cl u8 (List.replicate 64 0)) 31 (0, 0)), (b5, .cells (cl u8 nonce) 30 (0, 0)), (b3, .cells (cl u8 key) 28 (0, 0))])) from hm11)) (by first | omega | (simp only [List.length_set, List.length_append, List.length_replicate, List.length_map, List.length_cons, List.length_nil]; omega) | (simp; done) | (simp; omega)) (by first | omega | (simp only [List.length_set, List.length_append, List.length_replicate, List.length_map, List.length_cons, List.length_nil]; omega) | (simp; done) | (simp; omega)) (by first | omega | (simp only [List.length_set, List.length_append, List.length_replicate, List.length_map, List.length_cons, List.length_nil]; omega) | (simp; done) | (simp; omega)) (by first | omega | (simp only [List.length_set, List.length_append, List.length_replicate, List.length_map, List.length_cons, List.length_nil]; omega) | (simp; done) | (simp; omega)) (by first | omega | (simp only [List.length_set, List.length_append, List.length_replicate, List.length_map, List.length_cons, List.length_nil]; omega) | (simp; done) | (simp; omega)))) ?_
      rintro _ w13 ⟨rfl, k_w13⟩
      have hm13 : Mem w13 (restOf w0) [(b8, .cells (cl u32 (qAt (rounds dbl k (beginP wordPL key counter nonce)) (0 : Int).toNat (4 : Int).toNat (8 : Int).toNat (12 : Int).toNat)) 43 (0, 0)), (b7, .cells (cl u32 (beginP wordPL key counter nonce)) 43 (0, 0)), (b6, .cells (cl u8 (List.replicate 64 0)) 31 (0, 0)), (b5, .cells (cl u8 nonce) 30 (0, 0)), (b3, .cells (cl u8 key) 28 (0, 0))] := Mem.back (show Mem _ _ ([(b8, .cells (cl u32 (rounds dbl k (beginP wordPL key counter nonce))) 43 (0, 0))] ++ ([(b7, .cells (cl u32 (beginP wordPL key counter nonce)) 43 (0, 0)), (b6, .cells (cl u8 (List.replicate 64 0)) 31 (0, 0)), (b5, .cells (cl u8 nonce) 30 (0, 0)), (b3, .cells (cl u8 key) 28 (0, 0))])) from hm11) k_w13
      refine rw_nil ?_
      refine kBlk_normal ?_
      refine CW.abs (fun g => g 0 = (agg u8 key) ∧ g 1 = (u32 counter) ∧ g 2 = (agg u8 nonce) ∧ g 3 = (ptr b3 0) ∧ g 5 = (ptr b5 0) ∧ g 6 = (ptr b6 0) ∧ g 7 = (ptr b7 0) ∧ g 8 = (ptr b8 0) ∧ g 9 = (i64 0) ∧ g 17 = (i64 (k : Int)) ∧ g 18 = (bl (decide ((k : Int) < 10))) ∧ g 19 = (i64 0) ∧ g 20 = (bl true) ∧ True) ⟨s0, s1, s2, s3, s5, s6, s7, s8, rfl, s17, rfl, rfl, rfl, trivial⟩ ?_
      rintro fr14 ⟨s0, s1, s2, s3, s5, s6, s7, s8, s9, s17, s18, s19, s20, _⟩
      refine cw_region ?_
      refine rw_q (v := (i64 1)) rfl (ev_i64_add (a := 0) (b := 1) s19 rfl (by omega) (by omega)) ?_
      refine rw_q rfl (ev_move (v := (i64 1)) rfl) ?_
      refine rw_nil ?_
      refine kThen_normal ?_
      refine cr_succ ?_
      refine cw_seq ?_
      refine cw_region ?_
      refine rw_q rfl (ev_i64_lss (a := 1) (b := 4) rfl rfl) ?_
      refine rw_nil ?_
      refine kThen_normal ?_
      refine cw_seq ?_
      refine cw_cond_t rfl (by decide) ?_
      refine cw_skip ?_
      refine kThen_normal ?_
      refine cw_seq ?_
      refine cw_block ?_
      refine cw_seq ?_
      refine cw_region ?_
      refine rw_q rfl (ev_move (v := (i64 1)) rfl) ?_
      refine rw_q rfl (ev_assign (v := (i64 1)) rfl) ?_
      refine rw_nil ?_
      refine kThen_normal ?_
      refine cw_region ?_
      refine rw_q rfl (ev_move (v := (i64 1)) rfl) ?_
      refine rw_q rfl (ev_move (v := (i64 1)) rfl) ?_
      refine rw_q (v := (i64 5)) rfl (ev_i64_add (a := 4) (b := 1) rfl rfl (by omega) (by omega)) ?_
      refine rw_q rfl (ev_move (v := (i64 1)) rfl) ?_
      refine rw_q (v := (i64 9)) rfl (ev_i64_add (a := 8) (b := 1) rfl rfl (by omega) (by omega)) ?_
      refine rw_q rfl (ev_move (v := (i64 1)) rfl) ?_
      refine rw_q (v := (i64 13)) rfl (ev_i64_add (a := 12) (b := 1) rfl rfl (by omega) (by omega)) ?_
      refine rw_q rfl (ev_build_cl i64 [1, 5, 9, 13] i64_one ti40 Try.underlying40 ti3 rfl rfl) ?_
      refine rw_c rfl (opR_call Try.func17 bd17 nm17 (args2 s8 rfl) (c_squarter b8 (qAt (rounds dbl k (beginP wordPL key counter nonce)) (0 : Int).toNat (4 : Int).toNat (8 : Int).toNat (12 : Int).toNat) (1 : Int) (5 : Int) (9 : Int) (13 : Int) _ _ (Mem.give (show Mem _ _ ([(b8, .cells (cl u32 (qAt (rounds dbl k (beginP wordPL key counter nonce)) (0 : Int).toNat (4 : Int).toNat (8 : Int).toNat (12 : Int).toNat)) 43 (0, 0))] ++ ([(b7, .cells (cl u32 (beginP wordPL key counter nonce)) 43 (0, 0)), (b6, .cells (cl u8 (List.replicate 64 0)) 31 (0, 0)), (b5, .cells (cl u8 nonce) 30 (0, 0)), (b3, .cells (cl u8 key) 28 (0, 0))])) from hm13)) (by first | omega | (simp only [List.length_set, List.length_append, List.length_replicate, List.length_map, List.length_cons, List.length_nil]; omega) | (simp; done) | (simp; omega)) (by first | omega | (simp only [List.length_set, List.length_append, List.length_replicate, List.length_map, List.length_cons, List.length_nil]; omega) | (simp; done) | (simp; omega)) (by first | omega | (simp only [List.length_set, List.length_append, List.length_replicate, List.length_map, List.length_cons, List.length_nil]; omega) | (simp; done) | (simp; omega)) (by first | omega | (simp only [List.length_set, List.length_append, List.length_replicate, List.length_map, List.length_cons, List.length_nil]; omega) | (simp; done) | (simp; omega)) (by first | omega | (simp only [List.length_set, List.length_append, List.length_replicate, List.length_map, List.length_cons, List.length_nil]; omega) | (simp; done) | (simp; omega)))) ?_
      rintro _ w15 ⟨rfl, k_w15⟩
      have hm15 : Mem w15 (restOf w0) [(b8, .cells (cl u32 (qAt (qAt (rounds dbl k (beginP wordPL key counter nonce)) (0 : Int).toNat (4 : Int).toNat (8 : Int).toNat (12 : Int).toNat) (1 : Int).toNat (5 : Int).toNat (9 : Int).toNat (13 : Int).toNat)) 43 (0, 0)), (b7, .cells (cl u32 (beginP wordPL key counter nonce)) 43 (0, 0)), (b6, .cells (cl u8 (List.replicate 64 0)) 31 (0, 0)), (b5, .cells (cl u8 nonce) 30 (0, 0)), (b3, .cells (cl u8 key) 28 (0, 0))] := Mem.back (show Mem _ _ ([(b8, .cells (cl u32 (qAt (rounds dbl k (beginP wordPL key counter nonce)) (0 : Int).toNat (4 : Int).toNat (8 : Int).toNat (12 : Int).toNat)) 43 (0, 0))] ++ ([(b7, .cells (cl u32 (beginP wordPL key counter nonce)) 43 (0, 0)), (b6, .cells (cl u8 (List.replicate 64 0)) 31 (0, 0)), (b5, .cells (cl u8 nonce) 30 (0, 0)), (b3, .cells (cl u8 key) 28 (0, 0))])) from hm13) k_w15
      refine rw_nil ?_
      refine kBlk_normal ?_
      refine CW.abs (fun g => g 0 = (agg u8 key) ∧ g 1 = (u32 counter) ∧ g 2 = (agg u8 nonce) ∧ g 3 = (ptr b3 0) ∧ g 5 = (ptr b5 0) ∧ g 6 = (ptr b6 0) ∧ g 7 = (ptr b7 0) ∧ g 8 = (ptr b8 0) ∧ g 9 = (i64 1) ∧ g 17 = (i64 (k : Int)) ∧ g 18 = (bl (decide ((k : Int) < 10))) ∧ g 19 = (i64 1) ∧ g 20 = (bl true) ∧ True) ⟨s0, s1, s2, s3, s5, s6, s7, s8, rfl, s17, s18, rfl, rfl, trivial⟩ ?_
      rintro fr16 ⟨s0, s1, s2, s3, s5, s6, s7, s8, s9, s17, s18, s19, s20, _⟩
      refine cw_region ?_
      refine rw_q (v := (i64 2)) rfl (ev_i64_add (a := 1) (b := 1) s19 rfl (by omega) (by omega)) ?_
      refine rw_q rfl (ev_move (v := (i64 2)) rfl) ?_
      refine rw_nil ?_
      refine kThen_normal ?_
      refine cr_succ ?_
      refine cw_seq ?_
      refine cw_region ?_
      refine rw_q rfl (ev_i64_lss (a := 2) (b := 4) rfl rfl) ?_
      refine rw_nil ?_
      refine kThen_normal ?_
      refine cw_seq ?_
      refine cw_cond_t rfl (by decide) ?_
      refine cw_skip ?_
      refine kThen_normal ?_
      refine cw_seq ?_
      refine cw_block ?_
      refine cw_seq ?_
      refine cw_region ?_
      refine rw_q rfl (ev_move (v := (i64 2)) rfl) ?_
      refine rw_q rfl (ev_assign (v := (i64 2)) rfl) ?_
      refine rw_nil ?_
      refine kThen_normal ?_
      refine cw_region ?_
      refine rw_q rfl (ev_move (v := (i64 2)) rfl) ?_
      refine rw_q rfl (ev_move (v := (i64 2)) rfl) ?_
      refine rw_q (v := (i64 6)) rfl (ev_i64_add (a := 4) (b := 2) rfl rfl (by omega) (by omega)) ?_
      refine rw_q rfl (ev_move (v := (i64 2)) rfl) ?_
      refine rw_q (v := (i64 10)) rfl (ev_i64_add (a := 8) (b := 2) rfl rfl (by omega) (by omega)) ?_
      refine rw_q rfl (ev_move (v := (i64 2)) rfl) ?_
      refine rw_q (v := (i64 14)) rfl (ev_i64_add (a := 12) (b := 2) rfl rfl (by omega) (by omega)) ?_
      refine rw_q rfl (ev_build_cl i64 [2, 6, 10, 14] i64_one ti40 Try.underlying40 ti3 rfl rfl) ?_
      refine rw_c rfl (opR_call Try.func17 bd17 nm17 (args2 s8 rfl) (c_squarter b8 (qAt (qAt (rounds dbl k (beginP wordPL key counter nonce)) (0 : Int).toNat (4 : Int).toNat (8 : Int).toNat (12 : Int).toNat) (1 : Int).toNat (5 : Int).toNat (9 : Int).toNat (13 : Int).toNat) (2 : Int) (6 : Int) (10 : Int) (14 : Int) _ _ (Mem.give (show Mem _ _ ([(b8, .cells (cl u32 (qAt (qAt (rounds dbl k (beginP wordPL key counter nonce)) (0 : Int).toNat (4 : Int).toNat (8 : Int).toNat (12 : Int).toNat) (1 : Int).toNat (5 : Int).toNat (9 : Int).toNat (13 : Int).toNat)) 43 (0, 0))] ++ ([(b7, .cells (cl u32 (beginP wordPL key counter nonce)) 43 (0, 0)), (b6, .cells (cl u8 (List.replicate 64 0)) 31 (0, 0)), (b5, .cells (cl u8 nonce) 30 (0, 0)), (b3, .cells (cl u8 key) 28 (0, 0))])) from hm15)) (by first | omega | (simp only [List.length_set, List.length_append, List.length_replicate, List.length_map, List.length_cons, List.length_nil]; omega) | (simp; done) | (simp; omega)) (by first | omega | (simp only [List.length_set, List.length_append, List.length_replicate, List.length_map, List.length_cons, List.length_nil]; omega) | (simp; done) | (simp; omega)) (by first | omega | (simp only [List.length_set, List.length_append, List.length_replicate, List.length_map, List.length_cons, List.length_nil]; omega) | (simp; done) | (simp; omega)) (by first | omega | (simp only [List.length_set, List.length_append, List.length_replicate, List.length_map, List.length_cons, List.length_nil]; omega) | (simp; done) | (simp; omega)) (by first | omega | (simp only [List.length_set, List.length_append, List.length_replicate, List.length_map, List.length_cons, List.length_nil]; omega) | (simp; done) | (simp; omega)))) ?_
      rintro _ w17 ⟨rfl, k_w17⟩
      have hm17 : Mem w17 (restOf w0) [(b8, .cells (cl u32 (qAt (qAt (qAt (rounds dbl k (beginP wordPL key counter nonce)) (0 : Int).toNat (4 : Int).toNat (8 : Int).toNat (12 : Int).toNat) (1 : Int).toNat (5 : Int).toNat (9 : Int).toNat (13 : Int).toNat) (2 : Int).toNat (6 : Int).toNat (10 : Int).toNat (14 : Int).toNat)) 43 (0, 0)), (b7, .cells (cl u32 (beginP wordPL key counter nonce)) 43 (0, 0)), (b6, .cells (cl u8 (List.replicate 64 0)) 31 (0, 0)), (b5, .cells (cl u8 nonce) 30 (0, 0)), (b3, .cells (cl u8 key) 28 (0, 0))] := Mem.back (show Mem _ _ ([(b8, .cells (cl u32 (qAt (qAt (rounds dbl k (beginP wordPL key counter nonce)) (0 : Int).toNat (4 : Int).toNat (8 : Int).toNat (12 : Int).toNat) (1 : Int).toNat (5 : Int).toNat (9 : Int).toNat (13 : Int).toNat)) 43 (0, 0))] ++ ([(b7, .cells (cl u32 (beginP wordPL key counter nonce)) 43 (0, 0)), (b6, .cells (cl u8 (List.replicate 64 0)) 31 (0, 0)), (b5, .cells (cl u8 nonce) 30 (0, 0)), (b3, .cells (cl u8 key) 28 (0, 0))])) from hm15) k_w17
      refine rw_nil ?_
      refine kBlk_normal ?_
      refine CW.abs (fun g => g 0 = (agg u8 key) ∧ g 1 = (u32 counter) ∧ g 2 = (agg u8 nonce) ∧ g 3 = (ptr b3 0) ∧ g 5 = (ptr b5 0) ∧ g 6 = (ptr b6 0) ∧ g 7 = (ptr b7 0) ∧ g 8 = (ptr b8 0) ∧ g 9 = (i64 2) ∧ g 17 = (i64 (k : Int)) ∧ g 18 = (bl (decide ((k : Int) < 10))) ∧ g 19 = (i64 2) ∧ g 20 = (bl true) ∧ True) ⟨s0, s1, s2, s3, s5, s6, s7, s8, rfl, s17, s18, rfl, rfl, trivial⟩ ?_
      rintro fr18 ⟨s0, s1, s2, s3, s5, s6, s7, s8, s9, s17, s18, s19, s20, _⟩
      refine cw_region ?_
      refine rw_q (v := (i64 3)) rfl (ev_i64_add (a := 2) (b := 1) s19 rfl (by omega) (by omega)) ?_
      refine rw_q rfl (ev_move (v := (i64 3)) rfl) ?_
      refine rw_nil ?_
      refine kThen_normal ?_
      refine cr_succ ?_
      refine cw_seq ?_
      refine cw_region ?_
      refine rw_q rfl (ev_i64_lss (a := 3) (b := 4) rfl rfl) ?_
      refine rw_nil ?_
      refine kThen_normal ?_
      refine cw_seq ?_
      refine cw_cond_t rfl (by decide) ?_
      refine cw_skip ?_
      refine kThen_normal ?_
      refine cw_seq ?_
      refine cw_block ?_
      refine cw_seq ?_
      refine cw_region ?_
      refine rw_q rfl (ev_move (v := (i64 3)) rfl) ?_
      refine rw_q rfl (ev_assign (v := (i64 3)) rfl) ?_
      refine rw_nil ?_
      refine kThen_normal ?_
      refine cw_region ?_
      refine rw_q rfl (ev_move (v := (i64 3)) rfl) ?_
      refine rw_q rfl (ev_move (v := (i64 3)) rfl) ?_
      refine rw_q (v := (i64 7)) rfl (ev_i64_add (a := 4) (b := 3) rfl rfl (by omega) (by omega)) ?_
      refine rw_q rfl (ev_move (v := (i64 3)) rfl) ?_
      refine rw_q (v := (i64 11)) rfl (ev_i64_add (a := 8) (b := 3) rfl rfl (by omega) (by omega)) ?_
      refine rw_q rfl (ev_move (v := (i64 3)) rfl) ?_
      refine rw_q (v := (i64 15)) rfl (ev_i64_add (a := 12) (b := 3) rfl rfl (by omega) (by omega)) ?_
      refine rw_q rfl (ev_build_cl i64 [3, 7, 11, 15] i64_one ti40 Try.underlying40 ti3 rfl rfl) ?_
      refine rw_c rfl (opR_call Try.func17 bd17 nm17 (args2 s8 rfl) (c_squarter b8 (qAt (qAt (qAt (rounds dbl k (beginP wordPL key counter nonce)) (0 : Int).toNat (4 : Int).toNat (8 : Int).toNat (12 : Int).toNat) (1 : Int).toNat (5 : Int).toNat (9 : Int).toNat (13 : Int).toNat) (2 : Int).toNat (6 : Int).toNat (10 : Int).toNat (14 : Int).toNat) (3 : Int) (7 : Int) (11 : Int) (15 : Int) _ _ (Mem.give (show Mem _ _ ([(b8, .cells (cl u32 (qAt (qAt (qAt (rounds dbl k (beginP wordPL key counter nonce)) (0 : Int).toNat (4 : Int).toNat (8 : Int).toNat (12 : Int).toNat) (1 : Int).toNat (5 : Int).toNat (9 : Int).toNat (13 : Int).toNat) (2 : Int).toNat (6 : Int).toNat (10 : Int).toNat (14 : Int).toNat)) 43 (0, 0))] ++ ([(b7, .cells (cl u32 (beginP wordPL key counter nonce)) 43 (0, 0)), (b6, .cells (cl u8 (List.replicate 64 0)) 31 (0, 0)), (b5, .cells (cl u8 nonce) 30 (0, 0)), (b3, .cells (cl u8 key) 28 (0, 0))])) from hm17)) (by first | omega | (simp only [List.length_set, List.length_append, List.length_replicate, List.length_map, List.length_cons, List.length_nil]; omega) | (simp; done) | (simp; omega)) (by first | omega | (simp only [List.length_set, List.length_append, List.length_replicate, List.length_map, List.length_cons, List.length_nil]; omega) | (simp; done) | (simp; omega)) (by first | omega | (simp only [List.length_set, List.length_append, List.length_replicate, List.length_map, List.length_cons, List.length_nil]; omega) | (simp; done) | (simp; omega)) (by first | omega | (simp only [List.length_set, List.length_append, List.length_replicate, List.length_map, List.length_cons, List.length_nil]; omega) | (simp; done) | (simp; omega)) (by first | omega | (simp only [List.length_set, List.length_append, List.length_replicate, List.length_map, List.length_cons, List.length_nil]; omega) | (simp; done) | (simp; omega)))) ?_
      rintro _ w19 ⟨rfl, k_w19⟩
      have hm19 : Mem w19 (restOf w0) [(b8, .cells (cl u32 (qAt (qAt (qAt (qAt (rounds dbl k (beginP wordPL key counter nonce)) (0 : Int).toNat (4 : Int).toNat (8 : Int).toNat (12 : Int).toNat) (1 : Int).toNat (5 : Int).toNat (9 : Int).toNat (13 : Int).toNat) (2 : Int).toNat (6 : Int).toNat (10 : Int).toNat (14 : Int).toNat) (3 : Int).toNat (7 : Int).toNat (11 : Int).toNat (15 : Int).toNat)) 43 (0, 0)), (b7, .cells (cl u32 (beginP wordPL key counter nonce)) 43 (0, 0)), (b6, .cells (cl u8 (List.replicate 64 0)) 31 (0, 0)), (b5, .cells (cl u8 nonce) 30 (0, 0)), (b3, .cells (cl u8 key) 28 (0, 0))] := Mem.back (show Mem _ _ ([(b8, .cells (cl u32 (qAt (qAt (qAt (rounds dbl k (beginP wordPL key counter nonce)) (0 : Int).toNat (4 : Int).toNat (8 : Int).toNat (12 : Int).toNat) (1 : Int).toNat (5 : Int).toNat (9 : Int).toNat (13 : Int).toNat) (2 : Int).toNat (6 : Int).toNat (10 : Int).toNat (14 : Int).toNat)) 43 (0, 0))] ++ ([(b7, .cells (cl u32 (beginP wordPL key counter nonce)) 43 (0, 0)), (b6, .cells (cl u8 (List.replicate 64 0)) 31 (0, 0)), (b5, .cells (cl u8 nonce) 30 (0, 0)), (b3, .cells (cl u8 key) 28 (0, 0))])) from hm17) k_w19
      refine rw_nil ?_
      refine kBlk_normal ?_
      refine CW.abs (fun g => g 0 = (agg u8 key) ∧ g 1 = (u32 counter) ∧ g 2 = (agg u8 nonce) ∧ g 3 = (ptr b3 0) ∧ g 5 = (ptr b5 0) ∧ g 6 = (ptr b6 0) ∧ g 7 = (ptr b7 0) ∧ g 8 = (ptr b8 0) ∧ g 9 = (i64 3) ∧ g 17 = (i64 (k : Int)) ∧ g 18 = (bl (decide ((k : Int) < 10))) ∧ g 19 = (i64 3) ∧ g 20 = (bl true) ∧ True) ⟨s0, s1, s2, s3, s5, s6, s7, s8, rfl, s17, s18, rfl, rfl, trivial⟩ ?_
      rintro fr20 ⟨s0, s1, s2, s3, s5, s6, s7, s8, s9, s17, s18, s19, s20, _⟩
      refine cw_region ?_
      refine rw_q (v := (i64 4)) rfl (ev_i64_add (a := 3) (b := 1) s19 rfl (by omega) (by omega)) ?_
      refine rw_q rfl (ev_move (v := (i64 4)) rfl) ?_
      refine rw_nil ?_
      refine kThen_normal ?_
      refine cr_succ ?_
      refine cw_seq ?_
      refine cw_region ?_
      refine rw_q rfl (ev_i64_lss (a := 4) (b := 4) rfl rfl) ?_
      refine rw_nil ?_
      refine kThen_normal ?_
      refine cw_seq ?_
      refine cw_cond_f rfl (by decide) ?_
      refine cw_exit ?_
      refine kThen_exit (kThen_exit (kBlk_hit ?_))
      refine cw_seq ?_
      refine cw_region ?_
      refine rw_q rfl (ev_move (v := (i64 0)) rfl) ?_
      refine rw_nil ?_
      refine kThen_normal ?_
      refine cw_block' ?_
      refine cw_rounds 5 ?_
      refine cr_succ ?_
      refine cw_seq ?_
      refine cw_region ?_
      refine rw_q rfl (ev_i64_lss (a := 0) (b := 4) rfl rfl) ?_
      refine rw_nil ?_
      refine kThen_normal ?_
      refine cw_seq ?_
      refine cw_cond_t rfl (by decide) ?_
      refine cw_skip ?_
      refine kThen_normal ?_
      refine cw_seq ?_
      refine cw_block ?_
      refine cw_seq ?_
      refine cw_region ?_
      refine rw_q rfl (ev_move (v := (i64 0)) rfl) ?_
      refine rw_q rfl (ev_assign (v := (i64 0)) rfl) ?_
      refine rw_nil ?_
      refine kThen_normal ?_
      refine cw_region ?_
      refine rw_q rfl (ev_move (v := (i64 0)) rfl) ?_
      refine rw_q rfl (ev_move (v := (i64 0)) rfl) ?_
      refine rw_q (v := (i64 1)) rfl (ev_i64_add (a := 0) (b := 1) rfl rfl (by omega) (by omega)) ?_
      refine rw_q (v := (i64 1)) rfl (ev_i64_and (a := 1) (b := 3) rfl rfl (by omega) (by omega)) ?_
      refine rw_q (v := (i64 5)) rfl (ev_i64_add (a := 4) (b := 1) rfl rfl (by omega) (by omega)) ?_
      refine rw_q rfl (ev_move (v := (i64 0)) rfl) ?_
      refine rw_q (v := (i64 2)) rfl (ev_i64_add (a := 0) (b := 2) rfl rfl (by omega) (by omega)) ?_
      refine rw_q (v := (i64 2)) rfl (ev_i64_and (a := 2) (b := 3) rfl rfl (by omega) (by omega)) ?_
      refine rw_q (v := (i64 10)) rfl (ev_i64_add (a := 8) (b := 2) rfl rfl (by omega) (by omega)) ?_
      refine rw_q rfl (ev_move (v := (i64 0)) rfl) ?_
      refine rw_q (v := (i64 3)) rfl (ev_i64_add (a := 0) (b := 3) rfl rfl (by omega) (by omega)) ?_
      refine rw_q (v := (i64 3)) rfl (ev_i64_and (a := 3) (b := 3) rfl rfl (by omega) (by omega)) ?_
      refine rw_q (v := (i64 15)) rfl (ev_i64_add (a := 12) (b := 3) rfl rfl (by omega) (by omega)) ?_
      refine rw_q rfl (ev_build_cl i64 [0, 5, 10, 15] i64_one ti40 Try.underlying40 ti3 rfl rfl) ?_
      refine rw_c rfl (opR_call Try.func17 bd17 nm17 (args2 s8 rfl) (c_squarter b8 (qAt (qAt (qAt (qAt (rounds dbl k (beginP wordPL key counter nonce)) (0 : Int).toNat (4 : Int).toNat (8 : Int).toNat (12 : Int).toNat) (1 : Int).toNat (5 : Int).toNat (9 : Int).toNat (13 : Int).toNat) (2 : Int).toNat (6 : Int).toNat (10 : Int).toNat (14 : Int).toNat) (3 : Int).toNat (7 : Int).toNat (11 : Int).toNat (15 : Int).toNat) (0 : Int) (5 : Int) (10 : Int) (15 : Int) _ _ (Mem.give (show Mem _ _ ([(b8, .cells (cl u32 (qAt (qAt (qAt (qAt (rounds dbl k (beginP wordPL key counter nonce)) (0 : Int).toNat (4 : Int).toNat (8 : Int).toNat (12 : Int).toNat) (1 : Int).toNat (5 : Int).toNat (9 : Int).toNat (13 : Int).toNat) (2 : Int).toNat (6 : Int).toNat (10 : Int).toNat (14 : Int).toNat) (3 : Int).toNat (7 : Int).toNat (11 : Int).toNat (15 : Int).toNat)) 43 (0, 0))] ++ ([(b7, .cells (cl u32 (beginP wordPL key counter nonce)) 43 (0, 0)), (b6, .cells (cl u8 (List.replicate 64 0)) 31 (0, 0)), (b5, .cells (cl u8 nonce) 30 (0, 0)), (b3, .cells (cl u8 key) 28 (0, 0))])) from hm19)) (by first | omega | (simp only [List.length_set, List.length_append, List.length_replicate, List.length_map, List.length_cons, List.length_nil]; omega) | (simp; done) | (simp; omega)) (by first | omega | (simp only [List.length_set, List.length_append, List.length_replicate, List.length_map, List.length_cons, List.length_nil]; omega) | (simp; done) | (simp; omega)) (by first | omega | (simp only [List.length_set, List.length_append, List.length_replicate, List.length_map, List.length_cons, List.length_nil]; omega) | (simp; done) | (simp; omega)) (by first | omega | (simp only [List.length_set, List.length_append, List.length_replicate, List.length_map, List.length_cons, List.length_nil]; omega) | (simp; done) | (simp; omega)) (by first | omega | (simp only [List.length_set, List.length_append, List.length_replicate, List.length_map, List.length_cons, List.length_nil]; omega) | (simp; done) | (simp; omega)))) ?_
      rintro _ w21 ⟨rfl, k_w21⟩
      have hm21 : Mem w21 (restOf w0) [(b8, .cells (cl u32 (qAt (qAt (qAt (qAt (qAt (rounds dbl k (beginP wordPL key counter nonce)) (0 : Int).toNat (4 : Int).toNat (8 : Int).toNat (12 : Int).toNat) (1 : Int).toNat (5 : Int).toNat (9 : Int).toNat (13 : Int).toNat) (2 : Int).toNat (6 : Int).toNat (10 : Int).toNat (14 : Int).toNat) (3 : Int).toNat (7 : Int).toNat (11 : Int).toNat (15 : Int).toNat) (0 : Int).toNat (5 : Int).toNat (10 : Int).toNat (15 : Int).toNat)) 43 (0, 0)), (b7, .cells (cl u32 (beginP wordPL key counter nonce)) 43 (0, 0)), (b6, .cells (cl u8 (List.replicate 64 0)) 31 (0, 0)), (b5, .cells (cl u8 nonce) 30 (0, 0)), (b3, .cells (cl u8 key) 28 (0, 0))] := Mem.back (show Mem _ _ ([(b8, .cells (cl u32 (qAt (qAt (qAt (qAt (rounds dbl k (beginP wordPL key counter nonce)) (0 : Int).toNat (4 : Int).toNat (8 : Int).toNat (12 : Int).toNat) (1 : Int).toNat (5 : Int).toNat (9 : Int).toNat (13 : Int).toNat) (2 : Int).toNat (6 : Int).toNat (10 : Int).toNat (14 : Int).toNat) (3 : Int).toNat (7 : Int).toNat (11 : Int).toNat (15 : Int).toNat)) 43 (0, 0))] ++ ([(b7, .cells (cl u32 (beginP wordPL key counter nonce)) 43 (0, 0)), (b6, .cells (cl u8 (List.replicate 64 0)) 31 (0, 0)), (b5, .cells (cl u8 nonce) 30 (0, 0)), (b3, .cells (cl u8 key) 28 (0, 0))])) from hm19) k_w21
      refine rw_nil ?_
      refine kBlk_normal ?_
      refine CW.abs (fun g => g 0 = (agg u8 key) ∧ g 1 = (u32 counter) ∧ g 2 = (agg u8 nonce) ∧ g 3 = (ptr b3 0) ∧ g 5 = (ptr b5 0) ∧ g 6 = (ptr b6 0) ∧ g 7 = (ptr b7 0) ∧ g 8 = (ptr b8 0) ∧ g 9 = (i64 3) ∧ g 10 = (i64 0) ∧ g 17 = (i64 (k : Int)) ∧ g 18 = (bl (decide ((k : Int) < 10))) ∧ g 19 = (i64 4) ∧ g 20 = (bl false) ∧ g 32 = (i64 0) ∧ g 33 = (bl true) ∧ True) ⟨s0, s1, s2, s3, s5, s6, s7, s8, s9, rfl, s17, s18, rfl, rfl, rfl, rfl, trivial⟩ ?_
      rintro fr22 ⟨s0, s1, s2, s3, s5, s6, s7, s8, s9, s10, s17, s18, s19, s20, s32, s33, _⟩
      refine cw_region ?_
      refine rw_q (v := (i64 1)) rfl (ev_i64_add (a := 0) (b := 1) s32 rfl (by omega) (by omega)) ?_
      refine rw_q rfl (ev_move (v := (i64 1)) rfl) ?_
      refine rw_nil ?_
      refine kThen_normal ?_
      refine cr_succ ?_
      refine cw_seq ?_
      refine cw_region ?_
      refine rw_q rfl (ev_i64_lss (a := 1) (b := 4) rfl rfl) ?_
      refine rw_nil ?_
      refine kThen_normal ?_
      refine cw_seq ?_
      refine cw_cond_t rfl (by decide) ?_
      refine cw_skip ?_
      refine kThen_normal ?_
      refine cw_seq ?_
      refine cw_block ?_
      refine cw_seq ?_
      refine cw_region ?_
      refine rw_q rfl (ev_move (v := (i64 1)) rfl) ?_
      refine rw_q rfl (ev_assign (v := (i64 1)) rfl) ?_
      refine rw_nil ?_
      refine kThen_normal ?_
      refine cw_region ?_
      refine rw_q rfl (ev_move (v := (i64 1)) rfl) ?_
      refine rw_q rfl (ev_move (v := (i64 1)) rfl) ?_
      refine rw_q (v := (i64 2)) rfl (ev_i64_add (a := 1) (b := 1) rfl rfl (by omega) (by omega)) ?_
      refine rw_q (v := (i64 2)) rfl (ev_i64_and (a := 2) (b := 3) rfl rfl (by omega) (by omega)) ?_
      refine rw_q (v := (i64 6)) rfl (ev_i64_add (a := 4) (b := 2) rfl rfl (by omega) (by omega)) ?_
      refine rw_q rfl (ev_move (v := (i64 1)) rfl) ?_
      refine rw_q (v := (i64 3)) rfl (ev_i64_add (a := 1) (b := 2) rfl rfl (by omega) (by omega)) ?_
      refine rw_q (v := (i64 3)) rfl (ev_i64_and (a := 3) (b := 3) rfl rfl (by omega) (by omega)) ?_
      refine rw_q (v := (i64 11)) rfl (ev_i64_add (a := 8) (b := 3) rfl rfl (by omega) (by omega)) ?_
      refine rw_q rfl (ev_move (v := (i64 1)) rfl) ?_
      refine rw_q (v := (i64 4)) rfl (ev_i64_add (a := 1) (b := 3) rfl rfl (by omega) (by omega)) ?_
      refine rw_q (v := (i64 0)) rfl (ev_i64_and (a := 4) (b := 3) rfl rfl (by omega) (by omega)) ?_
      refine rw_q (v := (i64 12)) rfl (ev_i64_add (a := 12) (b := 0) rfl rfl (by omega) (by omega)) ?_
      refine rw_q rfl (ev_build_cl i64 [1, 6, 11, 12] i64_one ti40 Try.underlying40 ti3 rfl rfl) ?_
      refine rw_c rfl (opR_call Try.func17 bd17 nm17 (args2 s8 rfl) (c_squarter b8 (qAt (qAt (qAt (qAt (qAt (rounds dbl k (beginP wordPL key counter nonce)) (0 : Int).toNat (4 : Int).toNat (8 : Int).toNat (12 : Int).toNat) (1 : Int).toNat (5 : Int).toNat (9 : Int).toNat (13 : Int).toNat) (2 : Int).toNat (6 : Int).toNat (10 : Int).toNat (14 : Int).toNat) (3 : Int).toNat (7 : Int).toNat (11 : Int).toNat (15 : Int).toNat) (0 : Int).toNat (5 : Int).toNat (10 : Int).toNat (15 : Int).toNat) (1 : Int) (6 : Int) (11 : Int) (12 : Int) _ _ (Mem.give (show Mem _ _ ([(b8, .cells (cl u32 (qAt (qAt (qAt (qAt (qAt (rounds dbl k (beginP wordPL key counter nonce)) (0 : Int).toNat (4 : Int).toNat (8 : Int).toNat (12 : Int).toNat) (1 : Int).toNat (5 : Int).toNat (9 : Int).toNat (13 : Int).toNat) (2 : Int).toNat (6 : Int).toNat (10 : Int).toNat (14 : Int).toNat) (3 : Int).toNat (7 : Int).toNat (11 : Int).toNat (15 : Int).toNat) (0 : Int).toNat (5 : Int).toNat (10 : Int).toNat (15 : Int).toNat)) 43 (0, 0))] ++ ([(b7, .cells (cl u32 (beginP wordPL key counter nonce)) 43 (0, 0)), (b6, .cells (cl u8 (List.replicate 64 0)) 31 (0, 0)), (b5, .cells (cl u8 nonce) 30 (0, 0)), (b3, .cells (cl u8 key) 28 (0, 0))])) from hm21)) (by first | omega | (simp only [List.length_set, List.length_append, List.length_replicate, List.length_map, List.length_cons, List.length_nil]; omega) | (simp; done) | (simp; omega)) (by first | omega | (simp only [List.length_set, List.length_append, List.length_replicate, List.length_map, List.length_cons, List.length_nil]; omega) | (simp; done) | (simp; omega)) (by first | omega | (simp only [List.length_set, List.length_append, List.length_replicate, List.length_map, List.length_cons, List.length_nil]; omega) | (simp; done) | (simp; omega)) (by first | omega | (simp only [List.length_set, List.length_append, List.length_replicate, List.length_map, List.length_cons, List.length_nil]; omega) | (simp; done) | (simp; omega)) (by first | omega | (simp only [List.length_set, List.length_append, List.length_replicate, List.length_map, List.length_cons, List.length_nil]; omega) | (simp; done) | (simp; omega)))) ?_
      rintro _ w23 ⟨rfl, k_w23⟩
      have hm23 : Mem w23 (restOf w0) [(b8, .cells (cl u32 (qAt (qAt (qAt (qAt (qAt (qAt (rounds dbl k (beginP wordPL key counter nonce)) (0 : Int).toNat (4 : Int).toNat (8 : Int).toNat (12 : Int).toNat) (1 : Int).toNat (5 : Int).toNat (9 : Int).toNat (13 : Int).toNat) (2 : Int).toNat (6 : Int).toNat (10 : Int).toNat (14 : Int).toNat) (3 : Int).toNat (7 : Int).toNat (11 : Int).toNat (15 : Int).toNat) (0 : Int).toNat (5 : Int).toNat (10 : Int).toNat (15 : Int).toNat) (1 : Int).toNat (6 : Int).toNat (11 : Int).toNat (12 : Int).toNat)) 43 (0, 0)), (b7, .cells (cl u32 (beginP wordPL key counter nonce)) 43 (0, 0)), (b6, .cells (cl u8 (List.replicate 64 0)) 31 (0, 0)), (b5, .cells (cl u8 nonce) 30 (0, 0)), (b3, .cells (cl u8 key) 28 (0, 0))] := Mem.back (show Mem _ _ ([(b8, .cells (cl u32 (qAt (qAt (qAt (qAt (qAt (rounds dbl k (beginP wordPL key counter nonce)) (0 : Int).toNat (4 : Int).toNat (8 : Int).toNat (12 : Int).toNat) (1 : Int).toNat (5 : Int).toNat (9 : Int).toNat (13 : Int).toNat) (2 : Int).toNat (6 : Int).toNat (10 : Int).toNat (14 : Int).toNat) (3 : Int).toNat (7 : Int).toNat (11 : Int).toNat (15 : Int).toNat) (0 : Int).toNat (5 : Int).toNat (10 : Int).toNat (15 : Int).toNat)) 43 (0, 0))] ++ ([(b7, .cells (cl u32 (beginP wordPL key counter nonce)) 43 (0, 0)), (b6, .cells (cl u8 (List.replicate 64 0)) 31 (0, 0)), (b5, .cells (cl u8 nonce) 30 (0, 0)), (b3, .cells (cl u8 key) 28 (0, 0))])) from hm21) k_w23
      refine rw_nil ?_
      refine kBlk_normal ?_
      refine CW.abs (fun g => g 0 = (agg u8 key) ∧ g 1 = (u32 counter) ∧ g 2 = (agg u8 nonce) ∧ g 3 = (ptr b3 0) ∧ g 5 = (ptr b5 0) ∧ g 6 = (ptr b6 0) ∧ g 7 = (ptr b7 0) ∧ g 8 = (ptr b8 0) ∧ g 9 = (i64 3) ∧ g 10 = (i64 1) ∧ g 17 = (i64 (k : Int)) ∧ g 18 = (bl (decide ((k : Int) < 10))) ∧ g 19 = (i64 4) ∧ g 20 = (bl false) ∧ g 32 = (i64 1) ∧ g 33 = (bl true) ∧ True) ⟨s0, s1, s2, s3, s5, s6, s7, s8, s9, rfl, s17, s18, s19, s20, rfl, rfl, trivial⟩ ?_
      rintro fr24 ⟨s0, s1, s2, s3, s5, s6, s7, s8, s9, s10, s17, s18, s19, s20, s32, s33, _⟩
      refine cw_region ?_
      refine rw_q (v := (i64 2)) rfl (ev_i64_add (a := 1) (b := 1) s32 rfl (by omega) (by omega)) ?_
      refine rw_q rfl (ev_move (v := (i64 2)) rfl) ?_
      refine rw_nil ?_
      refine kThen_normal ?_
      refine cr_succ ?_
      refine cw_seq ?_
      refine cw_region ?_
      refine rw_q rfl (ev_i64_lss (a := 2) (b := 4) rfl rfl) ?_
      refine rw_nil ?_
      refine kThen_normal ?_
      refine cw_seq ?_
      refine cw_cond_t rfl (by decide) ?_
      refine cw_skip ?_
      refine kThen_normal ?_
      refine cw_seq ?_
      refine cw_block ?_
      refine cw_seq ?_
      refine cw_region ?_
      refine rw_q rfl (ev_move (v := (i64 2)) rfl) ?_
      refine rw_q rfl (ev_assign (v := (i64 2)) rfl) ?_
      refine rw_nil ?_
      refine kThen_normal ?_
      refine cw_region ?_
      refine rw_q rfl (ev_move (v := (i64 2)) rfl) ?_
      refine rw_q rfl (ev_move (v := (i64 2)) rfl) ?_
      refine rw_q (v := (i64 3)) rfl (ev_i64_add (a := 2) (b := 1) rfl rfl (by omega) (by omega)) ?_
      refine rw_q (v := (i64 3)) rfl (ev_i64_and (a := 3) (b := 3) rfl rfl (by omega) (by omega)) ?_
      refine rw_q (v := (i64 7)) rfl (ev_i64_add (a := 4) (b := 3) rfl rfl (by omega) (by omega)) ?_
      refine rw_q rfl (ev_move (v := (i64 2)) rfl) ?_
      refine rw_q (v := (i64 4)) rfl (ev_i64_add (a := 2) (b := 2) rfl rfl (by omega) (by omega)) ?_
      refine rw_q (v := (i64 0)) rfl (ev_i64_and (a := 4) (b := 3) rfl rfl (by omega) (by omega)) ?_
      refine rw_q (v := (i64 8)) rfl (ev_i64_add (a := 8) (b := 0) rfl rfl (by omega) (by omega)) ?_
      refine rw_q rfl (ev_move (v := (i64 2)) rfl) ?_
      refine rw_q (v := (i64 5)) rfl (ev_i64_add (a := 2) (b := 3) rfl rfl (by omega) (by omega)) ?_
      refine rw_q (v := (i64 1)) rfl (ev_i64_and (a := 5) (b := 3) rfl rfl (by omega) (by omega)) ?_
      refine rw_q (v := (i64 13)) rfl (ev_i64_add (a := 12) (b := 1) rfl rfl (by omega) (by omega)) ?_
      refine rw_q rfl (ev_build_cl i64 [2, 7, 8, 13] i64_one ti40 Try.underlying40 ti3 rfl rfl) ?_
      refine rw_c rfl (opR_call Try.func17 bd17 nm17 (args2 s8 rfl) (c_squarter b8 (qAt (qAt (qAt (qAt (qAt (qAt (rounds dbl k (beginP wordPL key counter nonce)) (0 : Int).toNat (4 : Int).toNat (8 : Int).toNat (12 : Int).toNat) (1 : Int).toNat (5 : Int).toNat (9 : Int).toNat (13 : Int).toNat) (2 : Int).toNat (6 : Int).toNat (10 : Int).toNat (14 : Int).toNat) (3 : Int).toNat (7 : Int).toNat (11 : Int).toNat (15 : Int).toNat) (0 : Int).toNat (5 : Int).toNat (10 : Int).toNat (15 : Int).toNat) (1 : Int).toNat (6 : Int).toNat (11 : Int).toNat (12 : Int).toNat) (2 : Int) (7 : Int) (8 : Int) (13 : Int) _ _ (Mem.give (show Mem _ _ ([(b8, .cells (cl u32 (qAt (qAt (qAt (qAt (qAt (qAt (rounds dbl k (beginP wordPL key counter nonce)) (0 : Int).toNat (4 : Int).toNat (8 : Int).toNat (12 : Int).toNat) (1 : Int).toNat (5 : Int).toNat (9 : Int).toNat (13 : Int).toNat) (2 : Int).toNat (6 : Int).toNat (10 : Int).toNat (14 : Int).toNat) (3 : Int).toNat (7 : Int).toNat (11 : Int).toNat (15 : Int).toNat) (0 : Int).toNat (5 : Int).toNat (10 : Int).toNat (15 : Int).toNat) (1 : Int).toNat (6 : Int).toNat (11 : Int).toNat (12 : Int).toNat)) 43 (0, 0))] ++ ([(b7, .cells (cl u32 (beginP wordPL key counter nonce)) 43 (0, 0)), (b6, .cells (cl u8 (List.replicate 64 0)) 31 (0, 0)), (b5, .cells (cl u8 nonce) 30 (0, 0)), (b3, .cells (cl u8 key) 28 (0, 0))])) from hm23)) (by first | omega | (simp only [List.length_set, List.length_append, List.length_replicate, List.length_map, List.length_cons, List.length_nil]; omega) | (simp; done) | (simp; omega)) (by first | omega | (simp only [List.length_set, List.length_append, List.length_replicate, List.length_map, List.length_cons, List.length_nil]; omega) | (simp; done) | (simp; omega)) (by first | omega | (simp only [List.length_set, List.length_append, List.length_replicate, List.length_map, List.length_cons, List.length_nil]; omega) | (simp; done) | (simp; omega)) (by first | omega | (simp only [List.length_set, List.length_append, List.length_replicate, List.length_map, List.length_cons, List.length_nil]; omega) | (simp; done) | (simp; omega)) (by first | omega | (simp only [List.length_set, List.length_append, List.length_replicate, List.length_map, List.length_cons, List.length_nil]; omega) | (simp; done) | (simp; omega)))) ?_
      rintro _ w25 ⟨rfl, k_w25⟩
      have hm25 : Mem w25 (restOf w0) [(b8, .cells (cl u32 (qAt (qAt (qAt (qAt (qAt (qAt (qAt (rounds dbl k (beginP wordPL key counter nonce)) (0 : Int).toNat (4 : Int).toNat (8 : Int).toNat (12 : Int).toNat) (1 : Int).toNat (5 : Int).toNat (9 : Int).toNat (13 : Int).toNat) (2 : Int).toNat (6 : Int).toNat (10 : Int).toNat (14 : Int).toNat) (3 : Int).toNat (7 : Int).toNat (11 : Int).toNat (15 : Int).toNat) (0 : Int).toNat (5 : Int).toNat (10 : Int).toNat (15 : Int).toNat) (1 : Int).toNat (6 : Int).toNat (11 : Int).toNat (12 : Int).toNat) (2 : Int).toNat (7 : Int).toNat (8 : Int).toNat (13 : Int).toNat)) 43 (0, 0)), (b7, .cells (cl u32 (beginP wordPL key counter nonce)) 43 (0, 0)), (b6, .cells (cl u8 (List.replicate 64 0)) 31 (0, 0)), (b5, .cells (cl u8 nonce) 30 (0, 0)), (b3, .cells (cl u8 key) 28 (0, 0))] := Mem.back (show Mem _ _ ([(b8, .cells (cl u32 (qAt (qAt (qAt (qAt (qAt (qAt (rounds dbl k (beginP wordPL key counter nonce)) (0 : Int).toNat (4 : Int).toNat (8 : Int).toNat (12 : Int).toNat) (1 : Int).toNat (5 : Int).toNat (9 : Int).toNat (13 : Int).toNat) (2 : Int).toNat (6 : Int).toNat (10 : Int).toNat (14 : Int).toNat) (3 : Int).toNat (7 : Int).toNat (11 : Int).toNat (15 : Int).toNat) (0 : Int).toNat (5 : Int).toNat (10 : Int).toNat (15 : Int).toNat) (1 : Int).toNat (6 : Int).toNat (11 : Int).toNat (12 : Int).toNat)) 43 (0, 0))] ++ ([(b7, .cells (cl u32 (beginP wordPL key counter nonce)) 43 (0, 0)), (b6, .cells (cl u8 (List.replicate 64 0)) 31 (0, 0)), (b5, .cells (cl u8 nonce) 30 (0, 0)), (b3, .cells (cl u8 key) 28 (0, 0))])) from hm23) k_w25
      refine rw_nil ?_
      refine kBlk_normal ?_
      refine CW.abs (fun g => g 0 = (agg u8 key) ∧ g 1 = (u32 counter) ∧ g 2 = (agg u8 nonce) ∧ g 3 = (ptr b3 0) ∧ g 5 = (ptr b5 0) ∧ g 6 = (ptr b6 0) ∧ g 7 = (ptr b7 0) ∧ g 8 = (ptr b8 0) ∧ g 9 = (i64 3) ∧ g 10 = (i64 2) ∧ g 17 = (i64 (k : Int)) ∧ g 18 = (bl (decide ((k : Int) < 10))) ∧ g 19 = (i64 4) ∧ g 20 = (bl false) ∧ g 32 = (i64 2) ∧ g 33 = (bl true) ∧ True) ⟨s0, s1, s2, s3, s5, s6, s7, s8, s9, rfl, s17, s18, s19, s20, rfl, rfl, trivial⟩ ?_
      rintro fr26 ⟨s0, s1, s2, s3, s5, s6, s7, s8, s9, s10, s17, s18, s19, s20, s32, s33, _⟩
      refine cw_region ?_
      refine rw_q (v := (i64 3)) rfl (ev_i64_add (a := 2) (b := 1) s32 rfl (by omega) (by omega)) ?_
      refine rw_q rfl (ev_move (v := (i64 3)) rfl) ?_
      refine rw_nil ?_
      refine kThen_normal ?_
      refine cr_succ ?_
      refine cw_seq ?_
      refine cw_region ?_
      refine rw_q rfl (ev_i64_lss (a := 3) (b := 4) rfl rfl) ?_
      refine rw_nil ?_
      refine kThen_normal ?_
      refine cw_seq ?_
      refine cw_cond_t rfl (by decide) ?_
      refine cw_skip ?_
      refine kThen_normal ?_
      refine cw_seq ?_
      refine cw_block ?_
      refine cw_seq ?_
      refine cw_region ?_
      refine rw_q rfl (ev_move (v := (i64 3)) rfl) ?_
      refine rw_q rfl (ev_assign (v := (i64 3)) rfl) ?_
      refine rw_nil ?_
      refine kThen_normal ?_
      refine cw_region ?_
      refine rw_q rfl (ev_move (v := (i64 3)) rfl) ?_
      refine rw_q rfl (ev_move (v := (i64 3)) rfl) ?_
      refine rw_q (v := (i64 4)) rfl (ev_i64_add (a := 3) (b := 1) rfl rfl (by omega) (by omega)) ?_
      refine rw_q (v := (i64 0)) rfl (ev_i64_and (a := 4) (b := 3) rfl rfl (by omega) (by omega)) ?_
      refine rw_q (v := (i64 4)) rfl (ev_i64_add (a := 4) (b := 0) rfl rfl (by omega) (by omega)) ?_
      refine rw_q rfl (ev_move (v := (i64 3)) rfl) ?_
      refine rw_q (v := (i64 5)) rfl (ev_i64_add (a := 3) (b := 2) rfl rfl (by omega) (by omega)) ?_
      refine rw_q (v := (i64 1)) rfl (ev_i64_and (a := 5) (b := 3) rfl rfl (by omega) (by omega)) ?_
      refine rw_q (v := (i64 9)) rfl (ev_i64_add (a := 8) (b := 1) rfl rfl (by omega) (by omega)) ?_
      refine rw_q rfl (ev_move (v := (i64 3)) rfl) ?_
      refine rw_q (v := (i64 6)) rfl (ev_i64_add (a := 3) (b := 3) rfl rfl (by omega) (by omega)) ?_
      refine rw_q (v := (i64 2)) rfl (ev_i64_and (a := 6) (b := 3) rfl rfl (by omega) (by omega)) ?_
      refine rw_q (v := (i64 14)) rfl (ev_i64_add (a := 12) (b := 2) rfl rfl (by omega) (by omega)) ?_
      refine rw_q rfl (ev_build_cl i64 [3, 4, 9, 14] i64_one ti40 Try.underlying40 ti3 rfl rfl) ?_
      refine rw_c rfl (opR_call Try.func17 bd17 nm17 (args2 s8 rfl) (c_squarter b8 (qAt (qAt (qAt (qAt (qAt (qAt (qAt (rounds dbl k (beginP wordPL key counter nonce)) (0 : Int).toNat (4 : Int).toNat (8 : Int).toNat (12 : Int).toNat) (1 : Int).toNat (5 : Int).toNat (9 : Int).toNat (13 : Int).toNat) (2 : Int).toNat (6 : Int).toNat (10 : Int).toNat (14 : Int).toNat) (3 : Int).toNat (7 : Int).toNat (11 : Int).toNat (15 : Int).toNat) (0 : Int).toNat (5 : Int).toNat (10 : Int).toNat (15 : Int).toNat) (1 : Int).toNat (6 : Int).toNat (11 : Int).toNat (12 : Int).toNat) (2 : Int).toNat (7 : Int).toNat (8 : Int).toNat (13 : Int).toNat) (3 : Int) (4 : Int) (9 : Int) (14 : Int) _ _ (Mem.give (show Mem _ _ ([(b8, .cells (cl u32 (qAt (qAt (qAt (qAt (qAt (qAt (qAt (rounds dbl k (beginP wordPL key counter nonce)) (0 : Int).toNat (4 : Int).toNat (8 : Int).toNat (12 : Int).toNat) (1 : Int).toNat (5 : Int).toNat (9 : Int).toNat (13 : Int).toNat) (2 : Int).toNat (6 : Int).toNat (10 : Int).toNat (14 : Int).toNat) (3 : Int).toNat (7 : Int).toNat (11 : Int).toNat (15 : Int).toNat) (0 : Int).toNat (5 : Int).toNat (10 : Int).toNat (15 : Int).toNat) (1 : Int).toNat (6 : Int).toNat (11 : Int).toNat (12 : Int).toNat) (2 : Int).toNat (7 : Int).toNat (8 : Int).toNat (13 : Int).toNat)) 43 (0, 0))] ++ ([(b7, .cells (cl u32 (beginP wordPL key counter nonce)) 43 (0, 0)), (b6, .cells (cl u8 (List.replicate 64 0)) 31 (0, 0)), (b5, .cells (cl u8 nonce) 30 (0, 0)), (b3, .cells (cl u8 key) 28 (0, 0))])) from hm25)) (by first | omega | (simp only [List.length_set, List.length_append, List.length_replicate, List.length_map, List.length_cons, List.length_nil]; omega) | (simp; done) | (simp; omega)) (by first | omega | (simp only [List.length_set, List.length_append, List.length_replicate, List.length_map, List.length_cons, List.length_nil]; omega) | (simp; done) | (simp; omega)) (by first | omega | (simp only [List.length_set, List.length_append, List.length_replicate, List.length_map, List.length_cons, List.length_nil]; omega) | (simp; done) | (simp; omega)) (by first | omega | (simp only [List.length_set, List.length_append, List.length_replicate, List.length_map, List.length_cons, List.length_nil]; omega) | (simp; done) | (simp; omega)) (by first | omega | (simp only [List.length_set, List.length_append, List.length_replicate, List.length_map, List.length_cons, List.length_nil]; omega) | (simp; done) | (simp; omega)))) ?_
      rintro _ w27 ⟨rfl, k_w27⟩
      have hm27 : Mem w27 (restOf w0) [(b8, .cells (cl u32 (qAt (qAt (qAt (qAt (qAt (qAt (qAt (qAt (rounds dbl k (beginP wordPL key counter nonce)) (0 : Int).toNat (4 : Int).toNat (8 : Int).toNat (12 : Int).toNat) (1 : Int).toNat (5 : Int).toNat (9 : Int).toNat (13 : Int).toNat) (2 : Int).toNat (6 : Int).toNat (10 : Int).toNat (14 : Int).toNat) (3 : Int).toNat (7 : Int).toNat (11 : Int).toNat (15 : Int).toNat) (0 : Int).toNat (5 : Int).toNat (10 : Int).toNat (15 : Int).toNat) (1 : Int).toNat (6 : Int).toNat (11 : Int).toNat (12 : Int).toNat) (2 : Int).toNat (7 : Int).toNat (8 : Int).toNat (13 : Int).toNat) (3 : Int).toNat (4 : Int).toNat (9 : Int).toNat (14 : Int).toNat)) 43 (0, 0)), (b7, .cells (cl u32 (beginP wordPL key counter nonce)) 43 (0, 0)), (b6, .cells (cl u8 (List.replicate 64 0)) 31 (0, 0)), (b5, .cells (cl u8 nonce) 30 (0, 0)), (b3, .cells (cl u8 key) 28 (0, 0))] := Mem.back (show Mem _ _ ([(b8, .cells (cl u32 (qAt (qAt (qAt (qAt (qAt (qAt (qAt (rounds dbl k (beginP wordPL key counter nonce)) (0 : Int).toNat (4 : Int).toNat (8 : Int).toNat (12 : Int).toNat) (1 : Int).toNat (5 : Int).toNat (9 : Int).toNat (13 : Int).toNat) (2 : Int).toNat (6 : Int).toNat (10 : Int).toNat (14 : Int).toNat) (3 : Int).toNat (7 : Int).toNat (11 : Int).toNat (15 : Int).toNat) (0 : Int).toNat (5 : Int).toNat (10 : Int).toNat (15 : Int).toNat) (1 : Int).toNat (6 : Int).toNat (11 : Int).toNat (12 : Int).toNat) (2 : Int).toNat (7 : Int).toNat (8 : Int).toNat (13 : Int).toNat)) 43 (0, 0))] ++ ([(b7, .cells (cl u32 (beginP wordPL key counter nonce)) 43 (0, 0)), (b6, .cells (cl u8 (List.replicate 64 0)) 31 (0, 0)), (b5, .cells (cl u8 nonce) 30 (0, 0)), (b3, .cells (cl u8 key) 28 (0, 0))])) from hm25) k_w27
      refine rw_nil ?_
      refine kBlk_normal ?_
      refine CW.abs (fun g => g 0 = (agg u8 key) ∧ g 1 = (u32 counter) ∧ g 2 = (agg u8 nonce) ∧ g 3 = (ptr b3 0) ∧ g 5 = (ptr b5 0) ∧ g 6 = (ptr b6 0) ∧ g 7 = (ptr b7 0) ∧ g 8 = (ptr b8 0) ∧ g 9 = (i64 3) ∧ g 10 = (i64 3) ∧ g 17 = (i64 (k : Int)) ∧ g 18 = (bl (decide ((k : Int) < 10))) ∧ g 19 = (i64 4) ∧ g 20 = (bl false) ∧ g 32 = (i64 3) ∧ g 33 = (bl true) ∧ True) ⟨s0, s1, s2, s3, s5, s6, s7, s8, s9, rfl, s17, s18, s19, s20, rfl, rfl, trivial⟩ ?_
      rintro fr28 ⟨s0, s1, s2, s3, s5, s6, s7, s8, s9, s10, s17, s18, s19, s20, s32, s33, _⟩
      refine cw_region ?_
      refine rw_q (v := (i64 4)) rfl (ev_i64_add (a := 3) (b := 1) s32 rfl (by omega) (by omega)) ?_
      refine rw_q rfl (ev_move (v := (i64 4)) rfl) ?_
      refine rw_nil ?_
      refine kThen_normal ?_
      refine cr_succ ?_
      refine cw_seq ?_
      refine cw_region ?_
      refine rw_q rfl (ev_i64_lss (a := 4) (b := 4) rfl rfl) ?_
      refine rw_nil ?_
      refine kThen_normal ?_
      refine cw_seq ?_
      refine cw_cond_f rfl (by decide) ?_
      refine cw_exit ?_
      refine kThen_exit (kThen_exit (kBlk_hit ?_))
      refine kBlk_normal ?_
      refine cw_region ?_
      refine rw_q rfl (ev_i64_add (b := 1) s17 rfl (by omega) (by omega)) ?_
      refine rw_q rfl (ev_move (v := (i64 ((k : Int) + 1))) rfl) ?_
      refine rw_nil ?_
      refine kThen_normal ?_
      exact ⟨⟨k + 1, (by omega), s0, s1, s2, s3, s5, s6, s7, s8, rfl, hm27⟩, meas rfl z17 (by omega) (by omega)⟩
    · -- false
      have hc12p := of_decide_eq_false hc12
      obtain rfl : k = 10 := by omega
      refine cw_exit ?_
      refine kThen_exit (kThen_exit (kBlk_hit ?_))
      refine cw_seq ?_
      refine cw_seq ?_
      refine cw_region ?_
      refine rw_q rfl (ev_move (v := (i64 0)) rfl) ?_
      refine rw_nil ?_
      refine kThen_normal ?_
      refine cw_block ?_
      refine cw_loop (fun g wv => ∃ (k2 : Nat), (k2 ≤ 64) ∧ g 0 = (agg u8 key) ∧ g 1 = (u32 counter) ∧ g 2 = (agg u8 nonce) ∧ g 3 = (ptr b3 0) ∧ g 5 = (ptr b5 0) ∧ g 6 = (ptr b6 0) ∧ g 7 = (ptr b7 0) ∧ g 8 = (ptr b8 0) ∧ g 17 = (i64 (10 : Int)) ∧ g 18 = (bl (decide ((10 : Int) < 10))) ∧ g 52 = (i64 (k2 : Int)) ∧ Mem wv (restOf w0) [(b8, .cells (cl u32 (rounds dbl 10 (beginP wordPL key counter nonce))) 43 (0, 0)), (b7, .cells (cl u32 (beginP wordPL key counter nonce)) 43 (0, 0)), (b6, .cells (cl u8 (filled (blockByte (rounds dbl 10 (beginP wordPL key counter nonce)) (beginP wordPL key counter nonce)) 0 64 k2)) 31 (0, 0)), (b5, .cells (cl u8 nonce) 30 (0, 0)), (b3, .cells (cl u8 key) 28 (0, 0))]) (fun g _ => (64 - RowKit.intOf (g 52)).toNat) ?_ ?_
      · exact ⟨0, (by omega), s0, s1, s2, s3, s5, s6, s7, s8, s17, rfl, rfl, (by rw [filled_zero]; exact hm11)⟩
      · rintro fr29 w30 ⟨k2, hk2, s0, s1, s2, s3, s5, s6, s7, s8, s17, s18, s52, hm30⟩
        have z52 := s52
        refine cw_seq ?_
        refine cw_region ?_
        refine rw_q rfl (ev_i64_lss (b := 64) s52 rfl) ?_
        refine rw_nil ?_
        refine kThen_normal ?_
        refine cw_seq ?_
        refine cw_cond rfl (fun hc31 => ?_) (fun hc31 => ?_)
        · -- true
          have hc31p := of_decide_eq_true hc31
          refine cw_skip ?_
          refine kThen_normal ?_
          refine cw_seq ?_
          refine cw_block ?_
          refine cw_seq ?_
          refine cw_region ?_
          refine rw_q rfl (ev_move (v := (i64 (k2 : Int))) s52) ?_
          refine rw_q rfl (ev_assign (v := (i64 (k2 : Int))) rfl) ?_
          refine rw_nil ?_
          refine kThen_normal ?_
          refine cw_draw [(0, false), (1, false), (2, false), (3, false), (4, false), (5, false), (6, false), (7, false), (8, false), (9, false), (10, false), (11, false), (12, false), (13, false), (14, false)] 15 (by kernel_rfl) ?_
          refine dw_q rfl rfl (fun _ _hx => ev_move (v := (i64 (k2 : Int))) rfl) ?_
          refine dw_q rfl rfl (fun _ _hx => ev_move (v := (i64 (k2 : Int))) rfl) ?_
          refine dw_q rfl rfl (fun _ _hx => ev_i64_quo (b := 4) rfl rfl (by omega) (by omega) (by omega)) ?_
          refine dw_q rfl rfl (fun _ _hx => ev_ia_arr (r := ((k2 : Int) / 4 : Int).toNat) (by omega) Try.underlying43 ti22 s8 rfl (by omega) (by first | omega | (simp only [List.length_set, List.length_append, List.length_replicate, List.length_map, List.length_cons, List.length_nil]; omega) | (simp; done) | (simp; omega))) ?_
          refine dw_q (v := (u32 ((rounds dbl 10 (beginP wordPL key counter nonce)).getD (((k2 : Int) / 4 : Int).toNat) 0))) rfl rfl (fun _ _hx => ev_load1 Try.underlying22 rfl rfl (hm30.ext _hx).h0 (get_clD _ _ 0 (by first | omega | (simp only [List.length_set, List.length_append, List.length_replicate, List.length_map, List.length_cons, List.length_nil]; omega) | (simp; done) | (simp; omega)))) ?_
          refine dw_q rfl rfl (fun _ _hx => ev_move (v := (i64 (k2 : Int))) rfl) ?_
          refine dw_q rfl rfl (fun _ _hx => ev_i64_quo (b := 4) rfl rfl (by omega) (by omega) (by omega)) ?_
          refine dw_q rfl rfl (fun _ _hx => ev_ia_arr (r := ((k2 : Int) / 4 : Int).toNat) (by omega) Try.underlying43 ti22 s7 rfl (by omega) (by first | omega | (simp only [List.length_set, List.length_append, List.length_replicate, List.length_map, List.length_cons, List.length_nil]; omega) | (simp; done) | (simp; omega))) ?_
          refine dw_q (v := (u32 ((beginP wordPL key counter nonce).getD (((k2 : Int) / 4 : Int).toNat) 0))) rfl rfl (fun _ _hx => ev_load1 Try.underlying22 rfl rfl (hm30.ext _hx).h1 (get_clD _ _ 0 (by first | omega | (simp only [List.length_set, List.length_append, List.length_replicate, List.length_map, List.length_cons, List.length_nil]; omega) | (simp; done) | (simp; omega)))) ?_
          refine dw_q rfl rfl (fun _ _hx => ev_u32_add rfl rfl) ?_
          refine dw_q rfl rfl (fun _ _hx => ev_move (v := (i64 (k2 : Int))) rfl) ?_
          refine dw_q rfl rfl (fun _ _hx => ev_i64_rem (b := 4) rfl rfl (by omega) (by omega) (by omega)) ?_
          refine dw_q rfl rfl (fun _ _hx => ev_i64_mul (a := 8) rfl rfl (by omega) (by omega)) ?_
          refine dw_q rfl rfl (fun _ _hx => ev_u32_shr rfl rfl (by omega)) ?_
          refine dw_q rfl rfl (fun _ _hx => ev_conv_u32_u8 ⟨_, Try.underlying22⟩ Try.underlying5 rfl) ?_
          refine dw_nil (fun w32 _ew32 => ?_)
          have hm32 := hm30.ext _ew32
          refine rw_q rfl (ev_ia_arr (r := k2) (by omega) Try.underlying31 ti5 s6 rfl (by omega) (by first | omega | (simp only [List.length_set, List.length_append, List.length_replicate, List.length_map, List.length_cons, List.length_nil]; omega) | (simp; done) | (simp; omega))) ?_
          refine rw_n (or_store_cl (f := u8) u8_one ti5 rfl rfl hm32.h2 (by first | omega | (simp only [List.length_set, List.length_append, List.length_replicate, List.length_map, List.length_cons, List.length_nil]; omega) | (simp; done) | (simp; omega)) (.inl (Nat.zero_le _))) ?_
          rintro _ w33 uq33
          have hm33 := hm32.upd2 uq33
          refine rw_nil ?_
          refine kBlk_normal ?_
          refine CW.abs (fun g => g 0 = (agg u8 key) ∧ g 1 = (u32 counter) ∧ g 2 = (agg u8 nonce) ∧ g 3 = (ptr b3 0) ∧ g 5 = (ptr b5 0) ∧ g 6 = (ptr b6 0) ∧ g 7 = (ptr b7 0) ∧ g 8 = (ptr b8 0) ∧ g 11 = (i64 (k2 : Int)) ∧ g 17 = (i64 (10 : Int)) ∧ g 18 = (bl (decide ((10 : Int) < 10))) ∧ g 52 = (i64 (k2 : Int)) ∧ g 53 = (bl (decide ((k2 : Int) < 64))) ∧ True) ⟨s0, s1, s2, s3, s5, s6, s7, s8, rfl, s17, s18, s52, rfl, trivial⟩ ?_
          rintro fr34 ⟨s0, s1, s2, s3, s5, s6, s7, s8, s11, s17, s18, s52, s53, _⟩
          refine cw_region ?_
          refine rw_q rfl (ev_i64_add (b := 1) s52 rfl (by omega) (by omega)) ?_
          refine rw_q rfl (ev_move (v := (i64 ((k2 : Int) + 1))) rfl) ?_
          refine rw_nil ?_
          refine kThen_normal ?_
          exact ⟨⟨k2 + 1, (by omega), s0, s1, s2, s3, s5, s6, s7, s8, s17, s18, rfl, (by rw [← filled_set (blockByte (rounds dbl 10 (beginP wordPL key counter nonce)) (beginP wordPL key counter nonce)) 0 (n := 64) (k := k2) (by omega) _ rfl]; exact hm33)⟩, meas rfl z52 (by omega) (by omega)⟩
        · -- false
          have hc31p := of_decide_eq_false hc31
          obtain rfl : k2 = 64 := by omega
          refine cw_exit ?_
          refine kThen_exit (kThen_exit (kBlk_hit ?_))
          refine cw_seq ?_
          refine cw_region ?_
          refine rw_q (v := (agg u8 (filled (blockByte (rounds dbl 10 (beginP wordPL key counter nonce)) (beginP wordPL key counter nonce)) 0 64 64))) rfl (ev_loadA Try.underlying31 rfl ti31 s6 hm30.h2 (by rw [size_cl]; first | omega | (simp only [List.length_set, List.length_append, List.length_replicate, List.length_map, List.length_cons, List.length_nil]; omega) | (simp; done) | (simp; omega))) ?_
          refine rw_n (or_store_agg (f := u8) (l := filled (blockByte (rounds dbl 10 (beginP wordPL key counter nonce)) (beginP wordPL key counter nonce)) 0 64 64) u8_one ti31 s6 rfl (by first | omega | (simp only [List.length_set, List.length_append, List.length_replicate, List.length_map, List.length_cons, List.length_nil]; omega) | (simp; done) | (simp; omega)) hm30.h2 (by rw [size_cl]; first | omega | (simp only [List.length_set, List.length_append, List.length_replicate, List.length_map, List.length_cons, List.length_nil]; omega) | (simp; done) | (simp; omega)) rfl) ?_
          rintro _ w35 uq35
          have hm35 := hm30.upd2 uq35
          refine rw_nil ?_
          refine kThen_normal ?_
          refine cw_ret ?_
          refine fnPost_ret [(agg u8 (filled (blockByte (rounds dbl 10 (beginP wordPL key counter nonce)) (beginP wordPL key counter nonce)) 0 64 64))] ⟨⟨_, s6, loadVar_run Try.underlying31 rfl ti31 hm35.h2 (by rw [size_cl]; first | omega | (simp only [List.length_set, List.length_append, List.length_replicate, List.length_map, List.length_cons, List.length_nil]; omega) | (simp; done) | (simp; omega))⟩, trivial⟩ ?_
          exact ⟨rfl, hm35.toExt⟩


end Go.Proofs.Ytehkomhnmipnbaa
