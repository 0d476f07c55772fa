/- Pairs: plain law; contracts of numbers and of what may be. Conditions: none beyond those that each theorem states. -/
import Derived.Test.YtfbnhoolkajebaaJoI
namespace Go.Proofs.Ytfbnhoolkajebaa
set_option linter.unusedVariables false
set_option linter.unusedSimpArgs false
/-! ### Pairs, plainly -/
structure PairT where
  key : ByteArray
  val : SlT
  gone : Bool
def encP (p : PairT) : List Value := [.string p.key, slv p.val, bl p.gone]
def pair0 : PairT := ⟨ByteArray.empty, sl0, false⟩
def strv (s : ByteArray) : Value := .string s
theorem strv_one (s : ByteArray) : (strv s).oneCell' = true := rfl
def rightB (n m : Nat) (g : Bool) : Bool := decide (0 < (n : Int)) && (decide ((n : Int) ≤ 1000) && (!g || ((m : Int) == 0)))
def rightP (p : PairT) : Bool := rightB p.key.size p.val.2.length p.gone
def goneB (g : Bool) : BitVec 8 := if g then 1#8 else 0#8
def num2 (n : Int) : List (BitVec 8) := [BitVec.ofInt 8 (n / 256), BitVec.ofInt 8 n]
def num4 (n : Int) : List (BitVec 8) := [BitVec.ofInt 8 (n / 16777216), BitVec.ofInt 8 (n / 65536), BitVec.ofInt 8 (n / 256), BitVec.ofInt 8 n]
/-- A pair's bytes. -/
def recP (g : Bool) (k : ByteArray) (v : List (BitVec 8)) : List (BitVec 8) := [goneB g] ++ (num2 (k.size : Int) ++ (bytesL k ++ (num4 (v.length : Int) ++ v)))
def encK (L : List PairT) : Nat → List (BitVec 8)
  | 0 => []
  | k + 1 => encK L k ++ recP (L.getD k pair0).gone (L.getD k pair0).key (L.getD k pair0).val.2
theorem encK_0 {L : List PairT} : [] = encK L 0 := rfl
theorem encK_S {L : List PairT} {k : Nat} : encK L k ++ recP (L.getD k pair0).gone (L.getD k pair0).key (L.getD k pair0).val.2 = encK L (k + 1) := rfl
theorem recP_len {g : Bool} {k : ByteArray} {v : List (BitVec 8)} : (recP g k v).length = 7 + k.size + v.length := by simp [recP, num2, num4, bytesL_length]; omega
def allR (L : List PairT) (k : Nat) : Bool := (L.take k).all rightP
theorem allR_0 {L : List PairT} : allR L 0 = true := rfl
theorem allR_S {L : List PairT} {k : Nat} (hk : k < L.length) : allR L (k + 1) = (allR L k && rightP (L.getD k pair0)) := by
  unfold allR; rw [← take_snoc (d := pair0) hk, List.all_append]; simp
theorem allR_no {L : List PairT} {k : Nat} (hk : k < L.length) (h : rightP (L.getD k pair0) = false) : allR L L.length = false := by
  unfold allR
  rw [List.take_length, List.all_eq_false]
  exact ⟨_, getD_mem (d := pair0) hk, by rw [h]; simp⟩
/-- The bytes of pairs; the error's number. -/
def encV (L : List PairT) : List (BitVec 8) := if allR L L.length then encK L L.length else []
def encE (L : List PairT) : Int := if allR L L.length then 0 else 1
theorem enc_yes {L : List PairT} (h : allR L L.length = true) : encV L = encK L L.length ∧ encE L = 0 := by unfold encV encE; rw [h]; exact ⟨rfl, rfl⟩
theorem enc_no {L : List PairT} (h : allR L L.length = false) : encV L = [] ∧ encE L = 1 := by unfold encV encE; rw [h]; exact ⟨rfl, rfl⟩
theorem goneB_t {g : Bool} (h : g = true) : 1#8 = goneB g := by rw [h]; rfl
theorem goneB_f {g : Bool} (h : g = false) : 0#8 = goneB g := by rw [h]; rfl
@[simp] theorem num2_len (n : Int) : (num2 n).length = 2 := rfl
@[simp] theorem num4_len (n : Int) : (num4 n).length = 4 := rfl
theorem encK_l0 {L : List PairT} : (encK L 0).length ≤ 2097159 * 0 := Nat.le_refl 0
/-! What is told with its size. -/
def tkOk (b : List (BitVec 8)) (s : Nat) : Bool := decide (s ≤ b.length) && decide (natB (b.take s) ≤ b.length - s)
def tkN (b : List (BitVec 8)) (s : Nat) : Nat := natB (b.take s)
/-- The first pair of bytes: is it whole, and its parts. -/
structure OneT where
  key : List (BitVec 8)
  val : List (BitVec 8)
  gone : Bool
def kN (b : List (BitVec 8)) : Nat := natB ((b.drop 1).take 2)
def vN_ (b : List (BitVec 8)) : Nat := natB ((b.drop (3 + kN b)).take 4)
def oneOk (b : List (BitVec 8)) : Bool := tkOk (b.drop 1) 2 && (tkOk (b.drop (3 + kN b)) 4 && (decide ((b.getD 0 0).toNat ≤ 1) && rightB (kN b) (vN_ b) ((b.getD 0 0) == 1#8)))
def oneP (b : List (BitVec 8)) : OneT := ⟨(b.drop 3).take (kN b), (b.drop (7 + kN b)).take (vN_ b), (b.getD 0 0) == 1#8⟩
def oneR (b : List (BitVec 8)) : List (BitVec 8) := b.drop (7 + kN b + vN_ b)
theorem oneR_lt {b : List (BitVec 8)} (h : 0 < b.length) : (oneR b).length < b.length := by unfold oneR; rw [List.length_drop]; omega
/-- The pairs of bytes: none, if they are none. -/
def decF : Nat → List (BitVec 8) → Option (List OneT)
  | 0, b => if b.length = 0 then some [] else none
  | f + 1, b => if b.length = 0 then some [] else if oneOk b then (decF f (oneR b)).map (oneP b :: ·) else none
def decP (b : List (BitVec 8)) : Option (List OneT) := decF b.length b
def tkP (v : Value) (b : List (BitVec 8)) (s : Nat) : Value := subv (subv v (s : Int) (b.length : Int)) 0 (tkN b s : Int)
def tkR (v : Value) (b : List (BitVec 8)) (s : Nat) : Value := subv (subv v (s : Int) (b.length : Int)) (tkN b s : Int) ((b.length - s : Nat) : Int)
section
variable {m : Nat → Option Obj} {v : Value} {b : List (BitVec 8)} {s : Nat}
theorem tk_t (h : tkOk b s = true) : s ≤ b.length ∧ tkN b s ≤ b.length - s := by
  unfold tkOk at h; rw [Bool.and_eq_true] at h
  exact ⟨of_decide_eq_true h.1, of_decide_eq_true h.2⟩
theorem tk_f (h : tkOk b s = false) (hs : s ≤ b.length) : b.length - s < tkN b s := by
  unfold tkOk at h; rw [Bool.and_eq_false_iff] at h
  rcases h with h | h
  · exact absurd hs (of_decide_eq_false h)
  · have := of_decide_eq_false h; unfold tkN; omega
theorem rd_tk0 (hr : Rd m u8 v b) (hs : s ≤ b.length) : Rd m u8 (subv v (s : Int) (b.length : Int)) (b.drop s) := by
  have h := hr.sub (i := (s : Int)) (j := (b.length : Int)) oM oM oM
  refine Rd.cast h ?_
  rw [Int.toNat_natCast, Int.toNat_natCast, List.take_of_length_le (by simp)]
theorem rd_tkP (hr : Rd m u8 v b) (h : tkOk b s = true) : Rd m u8 (tkP v b s) ((b.drop s).take (tkN b s)) := by
  obtain ⟨h1, h2⟩ := tk_t h
  have h3 := (rd_tk0 hr h1).sub (i := 0) (j := (tkN b s : Int)) oM oM (by simp; omega)
  refine Rd.cast h3 ?_
  show ((b.drop s).drop 0).take ((tkN b s : Int).toNat - 0) = _
  rw [Int.toNat_natCast, List.drop_zero, Nat.sub_zero]
theorem rd_tkR (hr : Rd m u8 v b) (h : tkOk b s = true) : Rd m u8 (tkR v b s) (b.drop (s + tkN b s)) := by
  obtain ⟨h1, h2⟩ := tk_t h
  have h3 := (rd_tk0 hr h1).sub (i := (tkN b s : Int)) (j := ((b.length - s : Nat) : Int)) oM oM (by rw [List.length_drop]; omega)
  refine Rd.cast h3 ?_
  rw [Int.toNat_natCast, Int.toNat_natCast, List.drop_drop, List.take_of_length_le (by simp; omega)]
theorem natB_lt4' {l : List (BitVec 8)} (h : l.length ≤ 4) : natB l < 4294967296 := by
  have := (getB_nat l oM).2
  have h2 : 256 ^ l.length ≤ 256 ^ 4 := Nat.pow_le_pow_right (by decide) h
  omega
theorem natB_succ' {l : List (BitVec 8)} {k : Nat} (h : k < l.length) : natB (l.take (k + 1)) = natB (l.take k) * 256 + (l.getD k 0).toNat := by
  rw [← take_snoc (d := 0) h, natB_snoc]
end
set_option maxHeartbeats 2000000 in
theorem c_sput2 (vo : Value) (lo : List (BitVec 8)) (Ho : List (Nat × Obj)) (x : Int) (w0 : World) (R : Rest) (hm0 : Mem w0 R (Ho ++ ([]))) (go : Grow u8 5 vo lo Ho) (hx : 0 ≤ x ∧ x ≤ 1048576) (hlo : lo.length ≤ 17592186044416) : CallsR Try.prog 59 #[vo, (i64 x), (i64 2)] w0 (fun r w1 => ∃ Hs, Grow u8 5 r (lo ++ num2 x) Hs ∧ Mem w1 R Hs) := by
 refine callsR_of_cw (args := [vo, (i64 x), (i64 2)]) Try.func59 rfl Try.ntmps59 Try.results59 rfl <| sR <| rw_q rfl (ev_assign (v := (Value.slice none 0 0)) rfl) ?_
 refine rN (cw_seq (sR ?_))
 refine rw_q rfl (ev_move (v := (i64 2)) rfl) <| rw_q (v := (i64 1)) rfl (ev_i64_sub (a := 2) (b := 1) rfl rfl oM oM) <| rw_q rfl (ev_assign (v := (i64 1)) rfl) ?_
 refine rN (cw_block ?_)
 refine cw_rounds 4 ?_
 refine cr_succ (cw_seq (sR ?_))
 refine rw_q rfl (ev_move (v := (i64 1)) rfl) <| rw_q rfl (ev_i64_geq (a := 1) (b := 0) rfl rfl) <| rN <| cw_cond_t rfl (by decide) ?_
 refine cw_skip (kThen_normal (cw_seq (cw_block (cw_region ?_))))
 refine rM rfl (v := vo) rfl <| rw_q rfl (ev_move (v := (i64 x)) rfl) <| rw_q rfl (ev_move (v := (i64 1)) rfl) <| rw_q (v := (i64 8)) rfl (ev_i64_mul (a := 8) (b := 1) rfl rfl oM oM) <| rw_q rfl (ev_i64_shrK (p := 256) (b := 8) rfl rfl rfl (by decide) (by decide)) <| rw_q rfl (ev_conv_i64_u8 ⟨_, uT3⟩ uT5 rfl) ?_
 refine rw_c rfl (or_buildSlice_cl u8 [BitVec.ofInt 8 (x / 256)] u8_one hm0 uT23 ti5 rfl rfl rfl) ?_
 rintro _ w1 ⟨b20, rfl, _ew1, hm1⟩
 refine rw_c rfl (or_append (f := u8) (Hs := Ho) (H := [(b20, .cells (cl u8 ([BitVec.ofInt 8 (x / 256)])) 5 (0, 0))]) (Mem.pick [_] Ho _ hm1) go rfl rfl (Rd.mkA hm1.h0) uT23 uT23 ti5 rfl u8_one sL sL) ?_
 rintro sv2 w2 ⟨Hs2, hm2, g2⟩
 replace g2 : Grow u8 5 sv2 (lo ++ ([BitVec.ofInt 8 (x / 256)])) Hs2 := g2
 refine rA rfl (v := sv2) rfl ?_
 refine rw_nil (kBlk_normal (cw_region ?_))
 refine rw_q rfl (ev_move (v := (i64 1)) rfl) <| rw_q (v := (i64 0)) rfl (ev_i64_sub (a := 1) (b := 1) rfl rfl oM oM) <| rw_q rfl (ev_assign (v := (i64 0)) rfl) <| rN ?_
 refine CR.abs (fun g => g 0 = sv2 ∧ g 1 = (i64 x) ∧ g 2 = (i64 2) ∧ g 6 = (Value.slice none 0 0) ∧ g 7 = (i64 0) ∧ g 11 = (bl true) ∧ True) ⟨rfl, rfl, rfl, rfl, rfl, rfl, trivial⟩ ?_
 rintro fr3 ⟨s0, s1, s2, s6, s7, s11, _⟩
 refine cr_succ (cw_seq (sR ?_))
 refine rM rfl s7 <| rw_q rfl (ev_i64_geq (a := 0) (b := 0) rfl rfl) <| rN <| cw_cond_t rfl (by decide) ?_
 refine cw_skip (kThen_normal (cw_seq (cw_block (cw_region ?_))))
 refine rM rfl s0 <| rM rfl s1 <| rM rfl s7 <| rw_q (v := (i64 0)) rfl (ev_i64_mul (a := 8) (b := 0) rfl rfl oM oM) <| rw_q rfl (ev_i64_shrK (p := 1) (b := 0) rfl rfl rfl (by decide) (by decide)) <| rw_q rfl (ev_conv_i64_u8 ⟨_, uT3⟩ uT5 rfl) ?_
 refine rw_c rfl (or_buildSlice_cl u8 [BitVec.ofInt 8 (x / 1)] u8_one hm2 uT23 ti5 rfl rfl rfl) ?_
 rintro _ w4 ⟨b20_1, rfl, _ew4, hm4⟩
 refine rw_c rfl (or_append (f := u8) (Hs := Hs2) (H := [(b20_1, .cells (cl u8 ([BitVec.ofInt 8 (x / 1)])) 5 (0, 0)), (b20, .cells (cl u8 ([BitVec.ofInt 8 (x / 256)])) 5 (0, 0))]) (Mem.pick [_] Hs2 _ hm4) g2 rfl rfl (Rd.mkA hm4.h0) uT23 uT23 ti5 rfl u8_one sL sL) ?_
 rintro sv5 w5 ⟨Hs5, hm5, g5⟩
 replace g5 : Grow u8 5 sv5 ((lo ++ ([BitVec.ofInt 8 (x / 256)])) ++ ([BitVec.ofInt 8 (x / 1)])) Hs5 := g5
 refine rA rfl (v := sv5) rfl ?_
 refine rw_nil (kBlk_normal (cw_region ?_))
 refine rM rfl s7 <| rw_q (v := (i64 (-1))) rfl (ev_i64_sub (a := 0) (b := 1) rfl rfl oM oM) <| rw_q rfl (ev_assign (v := (i64 (-1))) rfl) <| rN ?_
 refine CR.abs (fun g => g 0 = sv5 ∧ g 1 = (i64 x) ∧ g 2 = (i64 2) ∧ g 6 = (Value.slice none 0 0) ∧ g 7 = (i64 (-1)) ∧ g 11 = (bl true) ∧ True) ⟨rfl, s1, s2, s6, rfl, rfl, trivial⟩ ?_
 rintro fr6 ⟨s0, s1, s2, s6, s7, s11, _⟩
 refine cr_succ (cw_seq (sR ?_))
 refine rM rfl s7 <| rw_q rfl (ev_i64_geq (a := (-1)) (b := 0) rfl rfl) <| rN <| cw_cond_f rfl (by decide) <| cw_exit ?_
 refine kThen_exit (kThen_exit (kBlk_hit ?_))
 refine sR <| rM rfl s0 <| rA rfl (v := sv5) rfl ?_
 refine rN (cw_ret ?_)
 refine fnPost_ret [sv5] ⟨rfl, trivial⟩ ?_
 have hm7 := Mem.drop ([(b20_1, .cells (cl u8 ([BitVec.ofInt 8 (x / 1)])) 5 (0, 0))]) _ (Mem.pick Hs5 [_] _ hm5)
 have hm8 := Mem.drop ([(b20, .cells (cl u8 ([BitVec.ofInt 8 (x / 256)])) 5 (0, 0))]) _ (Mem.pick Hs5 [_] _ hm7)
 exact ⟨Hs5, Grow.cast g5 (by simp [num2]), by simpa using hm8⟩

set_option maxHeartbeats 2000000 in
theorem c_sput4 (vo : Value) (lo : List (BitVec 8)) (Ho : List (Nat × Obj)) (x : Int) (w0 : World) (R : Rest) (hm0 : Mem w0 R (Ho ++ ([]))) (go : Grow u8 5 vo lo Ho) (hx : 0 ≤ x ∧ x ≤ 1048576) (hlo : lo.length ≤ 17592186044416) : CallsR Try.prog 59 #[vo, (i64 x), (i64 4)] w0 (fun r w1 => ∃ Hs, Grow u8 5 r (lo ++ num4 x) Hs ∧ Mem w1 R Hs) := by
 refine callsR_of_cw (args := [vo, (i64 x), (i64 4)]) Try.func59 rfl Try.ntmps59 Try.results59 rfl <| sR <| rw_q rfl (ev_assign (v := (Value.slice none 0 0)) rfl) ?_
 refine rN (cw_seq (sR ?_))
 refine rw_q rfl (ev_move (v := (i64 4)) rfl) <| rw_q (v := (i64 3)) rfl (ev_i64_sub (a := 4) (b := 1) rfl rfl oM oM) <| rw_q rfl (ev_assign (v := (i64 3)) rfl) ?_
 refine rN (cw_block ?_)
 refine cw_rounds 6 ?_
 refine cr_succ (cw_seq (sR ?_))
 refine rw_q rfl (ev_move (v := (i64 3)) rfl) <| rw_q rfl (ev_i64_geq (a := 3) (b := 0) rfl rfl) <| rN <| cw_cond_t rfl (by decide) ?_
 refine cw_skip (kThen_normal (cw_seq (cw_block (cw_region ?_))))
 refine rM rfl (v := vo) rfl <| rw_q rfl (ev_move (v := (i64 x)) rfl) <| rw_q rfl (ev_move (v := (i64 3)) rfl) <| rw_q (v := (i64 24)) rfl (ev_i64_mul (a := 8) (b := 3) rfl rfl oM oM) <| rw_q rfl (ev_i64_shrK (p := 16777216) (b := 24) rfl rfl rfl (by decide) (by decide)) <| rw_q rfl (ev_conv_i64_u8 ⟨_, uT3⟩ uT5 rfl) ?_
 refine rw_c rfl (or_buildSlice_cl u8 [BitVec.ofInt 8 (x / 16777216)] u8_one hm0 uT23 ti5 rfl rfl rfl) ?_
 rintro _ w1 ⟨b20, rfl, _ew1, hm1⟩
 refine rw_c rfl (or_append (f := u8) (Hs := Ho) (H := [(b20, .cells (cl u8 ([BitVec.ofInt 8 (x / 16777216)])) 5 (0, 0))]) (Mem.pick [_] Ho _ hm1) go rfl rfl (Rd.mkA hm1.h0) uT23 uT23 ti5 rfl u8_one sL sL) ?_
 rintro sv2 w2 ⟨Hs2, hm2, g2⟩
 replace g2 : Grow u8 5 sv2 (lo ++ ([BitVec.ofInt 8 (x / 16777216)])) Hs2 := g2
 refine rA rfl (v := sv2) rfl ?_
 refine rw_nil (kBlk_normal (cw_region ?_))
 refine rw_q rfl (ev_move (v := (i64 3)) rfl) <| rw_q (v := (i64 2)) rfl (ev_i64_sub (a := 3) (b := 1) rfl rfl oM oM) <| rw_q rfl (ev_assign (v := (i64 2)) rfl) <| rN ?_
 refine CR.abs (fun g => g 0 = sv2 ∧ g 1 = (i64 x) ∧ g 2 = (i64 4) ∧ g 6 = (Value.slice none 0 0) ∧ g 7 = (i64 2) ∧ g 11 = (bl true) ∧ True) ⟨rfl, rfl, rfl, rfl, rfl, rfl, trivial⟩ ?_
 rintro fr3 ⟨s0, s1, s2, s6, s7, s11, _⟩
 refine cr_succ (cw_seq (sR ?_))
 refine rM rfl s7 <| rw_q rfl (ev_i64_geq (a := 2) (b := 0) rfl rfl) <| rN <| cw_cond_t rfl (by decide) ?_
 refine cw_skip (kThen_normal (cw_seq (cw_block (cw_region ?_))))
 refine rM rfl s0 <| rM rfl s1 <| rM rfl s7 <| rw_q (v := (i64 16)) rfl (ev_i64_mul (a := 8) (b := 2) rfl rfl oM oM) <| rw_q rfl (ev_i64_shrK (p := 65536) (b := 16) rfl rfl rfl (by decide) (by decide)) <| rw_q rfl (ev_conv_i64_u8 ⟨_, uT3⟩ uT5 rfl) ?_
 refine rw_c rfl (or_buildSlice_cl u8 [BitVec.ofInt 8 (x / 65536)] u8_one hm2 uT23 ti5 rfl rfl rfl) ?_
 rintro _ w4 ⟨b20_1, rfl, _ew4, hm4⟩
 refine rw_c rfl (or_append (f := u8) (Hs := Hs2) (H := [(b20_1, .cells (cl u8 ([BitVec.ofInt 8 (x / 65536)])) 5 (0, 0)), (b20, .cells (cl u8 ([BitVec.ofInt 8 (x / 16777216)])) 5 (0, 0))]) (Mem.pick [_] Hs2 _ hm4) g2 rfl rfl (Rd.mkA hm4.h0) uT23 uT23 ti5 rfl u8_one sL sL) ?_
 rintro sv5 w5 ⟨Hs5, hm5, g5⟩
 replace g5 : Grow u8 5 sv5 ((lo ++ ([BitVec.ofInt 8 (x / 16777216)])) ++ ([BitVec.ofInt 8 (x / 65536)])) Hs5 := g5
 refine rA rfl (v := sv5) rfl ?_
 refine rw_nil (kBlk_normal (cw_region ?_))
 refine rM rfl s7 <| rw_q (v := (i64 1)) rfl (ev_i64_sub (a := 2) (b := 1) rfl rfl oM oM) <| rw_q rfl (ev_assign (v := (i64 1)) rfl) <| rN ?_
 refine CR.abs (fun g => g 0 = sv5 ∧ g 1 = (i64 x) ∧ g 2 = (i64 4) ∧ g 6 = (Value.slice none 0 0) ∧ g 7 = (i64 1) ∧ g 11 = (bl true) ∧ True) ⟨rfl, s1, s2, s6, rfl, rfl, trivial⟩ ?_
 rintro fr6 ⟨s0, s1, s2, s6, s7, s11, _⟩
 refine cr_succ (cw_seq (sR ?_))
 refine rM rfl s7 <| rw_q rfl (ev_i64_geq (a := 1) (b := 0) rfl rfl) <| rN <| cw_cond_t rfl (by decide) ?_
 refine cw_skip (kThen_normal (cw_seq (cw_block (cw_region ?_))))
 refine rM rfl s0 <| rM rfl s1 <| rM rfl s7 <| rw_q (v := (i64 8)) rfl (ev_i64_mul (a := 8) (b := 1) rfl rfl oM oM) <| rw_q rfl (ev_i64_shrK (p := 256) (b := 8) rfl rfl rfl (by decide) (by decide)) <| rw_q rfl (ev_conv_i64_u8 ⟨_, uT3⟩ uT5 rfl) ?_
 refine rw_c rfl (or_buildSlice_cl u8 [BitVec.ofInt 8 (x / 256)] u8_one hm5 uT23 ti5 rfl rfl rfl) ?_
 rintro _ w7 ⟨b20_2, rfl, _ew7, hm7⟩
 refine rw_c rfl (or_append (f := u8) (Hs := Hs5) (H := [(b20_2, .cells (cl u8 ([BitVec.ofInt 8 (x / 256)])) 5 (0, 0)), (b20_1, .cells (cl u8 ([BitVec.ofInt 8 (x / 65536)])) 5 (0, 0)), (b20, .cells (cl u8 ([BitVec.ofInt 8 (x / 16777216)])) 5 (0, 0))]) (Mem.pick [_] Hs5 _ hm7) g5 rfl rfl (Rd.mkA hm7.h0) uT23 uT23 ti5 rfl u8_one sL sL) ?_
 rintro sv8 w8 ⟨Hs8, hm8, g8⟩
 replace g8 : Grow u8 5 sv8 (((lo ++ ([BitVec.ofInt 8 (x / 16777216)])) ++ ([BitVec.ofInt 8 (x / 65536)])) ++ ([BitVec.ofInt 8 (x / 256)])) Hs8 := g8
 refine rA rfl (v := sv8) rfl ?_
 refine rw_nil (kBlk_normal (cw_region ?_))
 refine rM rfl s7 <| rw_q (v := (i64 0)) rfl (ev_i64_sub (a := 1) (b := 1) rfl rfl oM oM) <| rw_q rfl (ev_assign (v := (i64 0)) rfl) <| rN ?_
 refine CR.abs (fun g => g 0 = sv8 ∧ g 1 = (i64 x) ∧ g 2 = (i64 4) ∧ g 6 = (Value.slice none 0 0) ∧ g 7 = (i64 0) ∧ g 11 = (bl true) ∧ True) ⟨rfl, s1, s2, s6, rfl, rfl, trivial⟩ ?_
 rintro fr9 ⟨s0, s1, s2, s6, s7, s11, _⟩
 refine cr_succ (cw_seq (sR ?_))
 refine rM rfl s7 <| rw_q rfl (ev_i64_geq (a := 0) (b := 0) rfl rfl) <| rN <| cw_cond_t rfl (by decide) ?_
 refine cw_skip (kThen_normal (cw_seq (cw_block (cw_region ?_))))
 refine rM rfl s0 <| rM rfl s1 <| rM rfl s7 <| rw_q (v := (i64 0)) rfl (ev_i64_mul (a := 8) (b := 0) rfl rfl oM oM) <| rw_q rfl (ev_i64_shrK (p := 1) (b := 0) rfl rfl rfl (by decide) (by decide)) <| rw_q rfl (ev_conv_i64_u8 ⟨_, uT3⟩ uT5 rfl) ?_
 refine rw_c rfl (or_buildSlice_cl u8 [BitVec.ofInt 8 (x / 1)] u8_one hm8 uT23 ti5 rfl rfl rfl) ?_
 rintro _ w10 ⟨b20_3, rfl, _ew10, hm10⟩
 refine rw_c rfl (or_append (f := u8) (Hs := Hs8) (H := [(b20_3, .cells (cl u8 ([BitVec.ofInt 8 (x / 1)])) 5 (0, 0)), (b20_2, .cells (cl u8 ([BitVec.ofInt 8 (x / 256)])) 5 (0, 0)), (b20_1, .cells (cl u8 ([BitVec.ofInt 8 (x / 65536)])) 5 (0, 0)), (b20, .cells (cl u8 ([BitVec.ofInt 8 (x / 16777216)])) 5 (0, 0))]) (Mem.pick [_] Hs8 _ hm10) g8 rfl rfl (Rd.mkA hm10.h0) uT23 uT23 ti5 rfl u8_one sL sL) ?_
 rintro sv11 w11 ⟨Hs11, hm11, g11⟩
 replace g11 : Grow u8 5 sv11 ((((lo ++ ([BitVec.ofInt 8 (x / 16777216)])) ++ ([BitVec.ofInt 8 (x / 65536)])) ++ ([BitVec.ofInt 8 (x / 256)])) ++ ([BitVec.ofInt 8 (x / 1)])) Hs11 := g11
 refine rA rfl (v := sv11) rfl ?_
 refine rw_nil (kBlk_normal (cw_region ?_))
 refine rM rfl s7 <| rw_q (v := (i64 (-1))) rfl (ev_i64_sub (a := 0) (b := 1) rfl rfl oM oM) <| rw_q rfl (ev_assign (v := (i64 (-1))) rfl) <| rN ?_
 refine CR.abs (fun g => g 0 = sv11 ∧ g 1 = (i64 x) ∧ g 2 = (i64 4) ∧ g 6 = (Value.slice none 0 0) ∧ g 7 = (i64 (-1)) ∧ g 11 = (bl true) ∧ True) ⟨rfl, s1, s2, s6, rfl, rfl, trivial⟩ ?_
 rintro fr12 ⟨s0, s1, s2, s6, s7, s11, _⟩
 refine cr_succ (cw_seq (sR ?_))
 refine rM rfl s7 <| rw_q rfl (ev_i64_geq (a := (-1)) (b := 0) rfl rfl) <| rN <| cw_cond_f rfl (by decide) <| cw_exit ?_
 refine kThen_exit (kThen_exit (kBlk_hit ?_))
 refine sR <| rM rfl s0 <| rA rfl (v := sv11) rfl ?_
 refine rN (cw_ret ?_)
 refine fnPost_ret [sv11] ⟨rfl, trivial⟩ ?_
 have hm13 := Mem.drop ([(b20_3, .cells (cl u8 ([BitVec.ofInt 8 (x / 1)])) 5 (0, 0))]) _ (Mem.pick Hs11 [_] _ hm11)
 have hm14 := Mem.drop ([(b20_2, .cells (cl u8 ([BitVec.ofInt 8 (x / 256)])) 5 (0, 0))]) _ (Mem.pick Hs11 [_] _ hm13)
 have hm15 := Mem.drop ([(b20_1, .cells (cl u8 ([BitVec.ofInt 8 (x / 65536)])) 5 (0, 0))]) _ (Mem.pick Hs11 [_] _ hm14)
 have hm16 := Mem.drop ([(b20, .cells (cl u8 ([BitVec.ofInt 8 (x / 16777216)])) 5 (0, 0))]) _ (Mem.pick Hs11 [_] _ hm15)
 exact ⟨Hs11, Grow.cast g11 (by simp [num4]), by simpa using hm16⟩

set_option maxHeartbeats 2000000 in
theorem c_sright (key : ByteArray) (v : Value) (l : List (BitVec 8)) (gn : Bool) (w0 : World)  (hr : Rd (blks w0) u8 v l) (hk : key.size ≤ 1048576) (hl : l.length ≤ 1048576) : CallsR Try.prog 58 #[(Value.agg #[(Value.string key), v, (bl gn)])] w0 (fun r w1 => r = (bl (rightB key.size l.length gn)) ∧ Ext w0 w1) := by
 refine callsR_of_cw (args := [(Value.agg #[(Value.string key), v, (bl gn)])]) Try.func58 rfl Try.ntmps58 Try.results58 rfl ?_
 have hm0 : Mem w0 (restOf w0) [] := Mem.of_world w0
 refine sR <| rw_c rfl (or_boxX (cs := #[(Value.string key), v, (bl gn)]) hm0 rfl) ?_
 rintro _ w1 ⟨b1, rfl, _ew1, hm1⟩
 refine rw_q rfl (ev_assign (v := (bl false)) rfl) ?_
 refine rN (sR ?_)
 refine rw_q rfl (ev_fa (r := 0) uT79 rfl (by first | rfl | omega) ti9 rfl rfl) <| rw_q (v := (Value.string key)) rfl (ev_load1 uT9 rfl rfl hm1.h0 rfl) <| rw_q (v := (i64 (key.size : Int))) rfl (ev_len_str uT9 rfl) <| rw_q rfl (ev_i64_gtr (b := 0) rfl rfl) <| rw_q rfl (ev_move (v := (bl (decide (0 < (key.size : Int))))) rfl) ?_
 rcases Bool.eq_false_or_eq_true (decide (0 < (key.size : Int))) with hb2 | hb2
 · -- true
   have hb2p := of_decide_eq_true hb2
   refine rw_gyq (s := 7) rfl rfl hb2 rfl (ev_fa (r := 0) uT79 rfl (by first | rfl | omega) ti9 rfl rfl) <| rw_gyq (s := 7) rfl rfl hb2 rfl (ev_load1 uT9 rfl rfl hm1.h0 rfl) <| rw_gyq (s := 7) rfl rfl hb2 rfl (ev_len_str uT9 rfl) <| rw_gyq (s := 7) rfl rfl hb2 rfl (ev_i64_leq (b := 1000) rfl rfl) <| rw_q rfl (ev_pick_tk rfl hb2 rfl) <| rw_q rfl (ev_move (v := (bl (decide ((key.size : Int) ≤ 1000)))) rfl) ?_
   rcases Bool.eq_false_or_eq_true (decide ((key.size : Int) ≤ 1000)) with hb3 | hb3
   · -- true
     have hb3p := of_decide_eq_true hb3
     refine rw_gyq (s := 13) rfl rfl hb3 rfl (ev_fa (r := 2) uT79 rfl (by first | rfl | omega) ti4 rfl rfl) <| rw_gyq (s := 13) rfl rfl hb3 rfl (ev_load1 uT4 rfl rfl hm1.h0 rfl) <| rw_gyq (s := 13) rfl rfl hb3 rfl (ev_not rfl) <| rw_gyq (s := 13) rfl rfl hb3 rfl (ev_move (v := (bl (!gn))) rfl) ?_
     rcases Bool.eq_false_or_eq_true (!gn) with hb4 | hb4
     · -- true
       have hb4n : gn = false := by simpa using hb4
       refine rw_gn (s := 17) rfl rfl hb4 rfl <| rw_gn (s := 17) rfl rfl hb4 rfl <| rw_gn (s := 17) rfl rfl hb4 rfl <| rw_gn (s := 17) rfl rfl hb4 rfl <| rw_gyq (s := 13) rfl rfl hb3 rfl (ev_pick_tk rfl hb4 rfl) <| rw_q rfl (ev_pick_tk rfl hb3 rfl) ?_
       refine rw_q rfl (ev_assign (v := (bl true)) rfl) <| rN ?_
       refine CW.abs (fun g => g 0 = (Value.agg #[(Value.string key), v, (bl gn)]) ∧ g 1 = (ptr b1 0) ∧ g 2 = (bl true) ∧ True) ⟨rfl, rfl, rfl, trivial⟩ ?_
       rintro fr5 ⟨s0, s1, s2, _⟩
       refine cw_ret <| fnPost_ret [(bl true)] ⟨s2, trivial⟩ ?_
       exact ⟨congrArg bl (by unfold rightB; simp only [hb2, hb3, hb4, Bool.true_and, Bool.false_and, Bool.and_true, Bool.and_false, Bool.true_or, Bool.false_or, Bool.not_true, Bool.not_false]), hm1.toExt⟩
     · -- false
       have hb4n : gn = true := by simpa using hb4
       refine rw_gyq (s := 17) rfl rfl hb4 rfl (ev_fa (r := 1) uT79 rfl (by first | rfl | omega) ti23 rfl rfl) <| rw_gyq (s := 17) rfl rfl hb4 rfl (ev_load1 uT23 rfl rfl hm1.h0 rfl) <| rw_gyq (s := 17) rfl rfl hb4 rfl (ev_len_rd (Rd.ofRest hr hm1) uT23 rfl) <| rw_gyq (s := 17) rfl rfl hb4 rfl (ev_i64_eql (b := 0) rfl rfl) <| rw_gyq (s := 13) rfl rfl hb3 rfl (ev_pick_fk rfl hb4 rfl) <| rw_q rfl (ev_pick_tk rfl hb3 rfl) ?_
       refine rw_q rfl (ev_assign (v := (bl ((l.length : Int) == 0))) rfl) <| rN ?_
       refine CW.abs (fun g => g 0 = (Value.agg #[(Value.string key), v, (bl gn)]) ∧ g 1 = (ptr b1 0) ∧ g 2 = (bl ((l.length : Int) == 0)) ∧ True) ⟨rfl, rfl, rfl, trivial⟩ ?_
       rintro fr6 ⟨s0, s1, s2, _⟩
       refine cw_ret <| fnPost_ret [(bl ((l.length : Int) == 0))] ⟨s2, trivial⟩ ?_
       exact ⟨congrArg bl (by unfold rightB; simp only [hb2, hb3, hb4, Bool.true_and, Bool.false_and, Bool.and_true, Bool.and_false, Bool.true_or, Bool.false_or, Bool.not_true, Bool.not_false]), hm1.toExt⟩
   · -- false
     have hb3p := of_decide_eq_false hb3
     refine rw_gn (s := 13) rfl rfl hb3 rfl <| rw_gn (s := 13) rfl rfl hb3 rfl <| rw_gn (s := 13) rfl rfl hb3 rfl <| rw_gn (s := 13) rfl rfl hb3 rfl <| rw_gu (s := 17) rfl rfl rfl <| rw_gu (s := 17) rfl rfl rfl ?_
     refine rw_gu (s := 17) rfl rfl rfl <| rw_gu (s := 17) rfl rfl rfl <| rw_gn (s := 13) rfl rfl hb3 rfl <| rw_q rfl (ev_pick_fk rfl hb3 rfl) <| rw_q rfl (ev_assign (v := (bl false)) rfl) <| rN ?_
     refine CW.abs (fun g => g 0 = (Value.agg #[(Value.string key), v, (bl gn)]) ∧ g 1 = (ptr b1 0) ∧ g 2 = (bl false) ∧ True) ⟨rfl, rfl, rfl, trivial⟩ ?_
     rintro fr7 ⟨s0, s1, s2, _⟩
     refine cw_ret <| fnPost_ret [(bl false)] ⟨s2, trivial⟩ ?_
     exact ⟨congrArg bl (by unfold rightB; simp only [hb2, hb3, Bool.true_and, Bool.false_and, Bool.and_true, Bool.and_false, Bool.true_or, Bool.false_or, Bool.not_true, Bool.not_false]), hm1.toExt⟩
 · -- false
   have hb2p := of_decide_eq_false hb2
   refine rw_gn (s := 7) rfl rfl hb2 rfl <| rw_gn (s := 7) rfl rfl hb2 rfl <| rw_gn (s := 7) rfl rfl hb2 rfl <| rw_gn (s := 7) rfl rfl hb2 rfl <| rw_q rfl (ev_pick_fk rfl hb2 rfl) <| rw_q rfl (ev_move (v := (bl false)) rfl) ?_
   refine rw_gn (s := 13) rfl rfl rfl rfl <| rw_gn (s := 13) rfl rfl rfl rfl <| rw_gn (s := 13) rfl rfl rfl rfl <| rw_gn (s := 13) rfl rfl rfl rfl <| rw_gu (s := 17) rfl rfl rfl <| rw_gu (s := 17) rfl rfl rfl ?_
   refine rw_gu (s := 17) rfl rfl rfl <| rw_gu (s := 17) rfl rfl rfl <| rw_gn (s := 13) rfl rfl rfl rfl <| rw_q rfl (ev_pick_f rfl rfl) <| rw_q rfl (ev_assign (v := (bl false)) rfl) <| rN ?_
   refine CW.abs (fun g => g 0 = (Value.agg #[(Value.string key), v, (bl gn)]) ∧ g 1 = (ptr b1 0) ∧ g 2 = (bl false) ∧ True) ⟨rfl, rfl, rfl, trivial⟩ ?_
   rintro fr8 ⟨s0, s1, s2, _⟩
   refine cw_ret <| fnPost_ret [(bl false)] ⟨s2, trivial⟩ ?_
   exact ⟨congrArg bl (by unfold rightB; simp only [hb2, Bool.true_and, Bool.false_and, Bool.and_true, Bool.and_false, Bool.true_or, Bool.false_or, Bool.not_true, Bool.not_false]), hm1.toExt⟩


end Go.Proofs.Ytfbnhoolkajebaa
