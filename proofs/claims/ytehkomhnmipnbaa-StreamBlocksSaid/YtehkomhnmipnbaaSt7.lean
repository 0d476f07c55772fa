/- The laws of the stream: their walks, and their plain laws. Conditions: none beyond those that each theorem states. -/
import Derived.Test.YtehkomhnmipnbaaSt6
import Derived.Test.YtehkomhnmipnbaaFwL
namespace Go.Proofs.Ytehkomhnmipnbaa
set_option linter.unusedVariables false
set_option linter.unusedSimpArgs false

theorem told_true {α : Type} [BEq α] [LawfulBEq α] {a b : α} (h : a = b) : (a == b) = true := by rw [h]; exact beq_self_eq_true b
theorem left3_inj {x y : BitVec 32} {n : Int} (h0 : 0 < n) (h1 : n < 32) (h : left3 x n = left3 y n) : x = y := by
  obtain ⟨k, rfl⟩ : ∃ k : Nat, n = k := ⟨n.toNat, by omega⟩
  have e0 : ((k : Int)).toNat = k := rfl
  have e32 : (32 - (k : Int)).toNat = 32 - k := by omega
  unfold left3 at h
  simp only [e0, e32] at h
  have hb : ∀ i, (x <<< k ||| x >>> (32 - k)).getLsbD i = (y <<< k ||| y >>> (32 - k)).getLsbD i := fun i => by rw [h]
  apply BitVec.eq_of_getLsbD_eq
  intro j hj
  by_cases hc : j + k < 32
  · have := hb (j + k)
    have e1 : 32 - k + (j + k) = 32 + j := by omega
    have e2 : ¬ (j + k < k) := by omega
    simpa only [BitVec.getLsbD_or, BitVec.getLsbD_shiftLeft, BitVec.getLsbD_ushiftRight, hc, e1, e2, BitVec.getLsbD_of_ge _ (32 + j) (Nat.le_add_right _ _), decide_true, decide_false, Bool.not_false, Bool.true_and, Bool.or_false, Nat.add_sub_cancel] using this
  · have := hb (j + k - 32)
    have e1 : 32 - k + (j + k - 32) = j := by omega
    have e2 : j + k - 32 < k := by omega
    simpa only [BitVec.getLsbD_or, BitVec.getLsbD_shiftLeft, BitVec.getLsbD_ushiftRight, e1, e2, decide_true, Bool.not_true, Bool.and_false, Bool.false_and, Bool.false_or] using this
def halfQ (n m : Int) (a b c d : BitVec 32) : BitVec 32 × BitVec 32 × BitVec 32 × BitVec 32 :=
  (a + b, left3 (b ^^^ (c + left3 (d ^^^ (a + b)) n)) m, c + left3 (d ^^^ (a + b)) n, left3 (d ^^^ (a + b)) n)
theorem halfQ_inj {n m : Int} (hn : 0 < n ∧ n < 32) (hm : 0 < m ∧ m < 32) {a b c d a' b' c' d' : BitVec 32} (h : halfQ n m a b c d = halfQ n m a' b' c' d') : a = a' ∧ b = b' ∧ c = c' ∧ d = d' := by
  simp only [halfQ, Prod.mk.injEq] at h
  obtain ⟨h1, h2, h3, h4⟩ := h
  rw [h4] at h3
  have hc : c = c' := (BitVec.add_left_inj _).1 h3
  have hd0 := left3_inj hn.1 hn.2 h4
  rw [h1] at hd0
  have hd : d = d' := (BitVec.xor_left_inj _).1 hd0
  have hb0 := left3_inj hm.1 hm.2 h2
  rw [h1, hc, hd] at hb0
  have hb : b = b' := (BitVec.xor_left_inj _).1 hb0
  rw [hb] at h1
  exact ⟨(BitVec.add_left_inj _).1 h1, hb, hc, hd⟩
theorem quarter_half (a b c d : BitVec 32) : quarterL left3 a b c d =
    (let p := halfQ 16 12 a b c d; let q := halfQ 8 7 p.1 p.2.1 p.2.2.1 p.2.2.2; [q.1, q.2.1, q.2.2.1, q.2.2.2]) := rfl
theorem quarter_inj {a b c d a' b' c' d' : BitVec 32} (h : quarterL left3 a b c d = quarterL left3 a' b' c' d') : [a, b, c, d] = [a', b', c', d'] := by
  rw [quarter_half, quarter_half] at h
  simp only [List.cons.injEq, and_true] at h
  have h' := halfQ_inj (by omega) (by omega) (Prod.ext h.1 (Prod.ext h.2.1 (Prod.ext h.2.2.1 h.2.2.2)))
  have h2 := halfQ_inj (by omega) (by omega) (Prod.ext h'.1 (Prod.ext h'.2.1 (Prod.ext h'.2.2.1 h'.2.2.2)))
  rw [h2.1, h2.2.1, h2.2.2.1, h2.2.2.2]
theorem quarters_told (a b c d a' b' c' d' : BitVec 32) : ((quarterL rotl32 a b c d == quarterL rotl32 a' b' c' d') == ([a, b, c, d] == [a', b', c', d'])) = true := by
  rw [quarter_same, quarter_same, beq_iff_eq, Bool.eq_iff_iff, beq_iff_eq, beq_iff_eq]
  constructor
  · exact quarter_inj
  · intro h
    simp only [List.cons.injEq, and_true] at h
    rw [h.1, h.2.1, h.2.2.1, h.2.2.2]
theorem speaks_told : (quarterL rotl32 286331153#32 16909060#32 2609737539#32 19088743#32 == [3928658676#32, 3407673550#32, 1166100270#32, 1484899515#32]) = true := by decide
theorem cuts_same (block : List (BitVec 8) → BitVec 32 → List (BitVec 8) → List (BitVec 8)) (key : List (BitVec 8)) (counter : BitVec 32) (nonce l : List (BitVec 8)) (m : Nat) (h : 64 * m ≤ l.length) :
    turnP block key counter nonce ((l.drop (0 : Int).toNat).take ((((64 * m : Nat) : Int)).toNat - (0 : Int).toNat)) ++
      turnP block key (counter + BitVec.ofInt 32 (((64 * m : Nat) : Int) / 64)) nonce ((l.drop (((64 * m : Nat) : Int)).toNat).take (((l.length : Int)).toNat - (((64 * m : Nat) : Int)).toNat)) = turnP block key counter nonce l := by
  have e0 : ((64 * m : Nat) : Int).toNat = 64 * m := rfl
  have e1 : ((64 * m : Nat) : Int) / 64 = ((m : Nat) : Int) := by omega
  have e2 : ((l.length : Int)).toNat = l.length := rfl
  have e3 : (l.drop (64 * m)).take (l.length - 64 * m) = l.drop (64 * m) := List.take_of_length_le (by simp)
  have e4 : BitVec.ofInt 32 ((m : Nat) : Int) = BitVec.ofNat 32 m := BitVec.ofInt_natCast 32 m
  simp only [e0, e1, e2, e3, e4, Int.toNat_zero, List.drop_zero, Nat.sub_zero]
  simp only [turnP_get]
  refine List.ext_getElem (by simp; omega) fun i h1 h2 => ?_
  simp only [List.length_map, List.length_range] at h2
  rw [List.getElem_append]
  simp only [List.getElem_map, List.getElem_range, List.length_map, List.length_range, List.length_take]
  have e5 : min (64 * m) l.length = 64 * m := by omega
  by_cases hi : i < 64 * m
  · rw [dif_pos (by rw [e5]; exact hi)]
    unfold turnByte
    congr 1
    simp only [List.getD_eq_getElem?_getD, List.getElem?_take, if_pos hi]
  · rw [dif_neg (by rw [e5]; exact hi)]
    unfold turnByte
    rw [e5]
    have e6 : (i - 64 * m) % 64 = i % 64 := by omega
    have e7 : counter + BitVec.ofNat 32 m + BitVec.ofNat 32 ((i - 64 * m) / 64) = counter + BitVec.ofNat 32 (i / 64) := by
      have : i / 64 = m + (i - 64 * m) / 64 := by omega
      rw [this, BitVec.add_assoc]; congr 1; simp [BitVec.ofNat_add]
    rw [e6, e7]
    congr 1
    simp only [List.getD_eq_getElem?_getD, List.getElem?_drop]
    congr 2; omega
def overlaid {α : Type} (g : Nat → α) (l : List α) (k : Nat) : List α := (List.range k).map g ++ l.drop k
theorem overlaid_length {α : Type} (g : Nat → α) (l : List α) (k : Nat) (h : k ≤ l.length) : (overlaid g l k).length = l.length := by simp [overlaid]; omega
theorem overlaid_get {α : Type} (g : Nat → α) (l : List α) (k : Nat) (z : α) : (overlaid g l k).getD k z = l.getD k z := by
  simp [overlaid, List.getD_eq_getElem?_getD, List.getElem?_append_right]
theorem overlaid_set {α : Type} (g : Nat → α) (l : List α) (k : Nat) (h : k < l.length) (x : α) (hx : x = g k) : (overlaid g l k).set k x = overlaid g l (k + 1) := by
  subst hx
  unfold overlaid
  rw [List.set_append_right _ _ (by simp), List.range_succ, List.map_append, List.drop_eq_getElem_cons h]
  simp only [List.length_map, List.length_range, Nat.sub_self, List.set_cons_zero, List.map_cons, List.map_nil, List.append_assoc, List.cons_append, List.nil_append]
theorem overlaid_all {α : Type} (g : Nat → α) (l : List α) : overlaid g l l.length = (List.range l.length).map g := by simp [overlaid]
theorem xor_turn (block : List (BitVec 8) → BitVec 32 → List (BitVec 8) → List (BitVec 8)) (key : List (BitVec 8)) (counter : BitVec 32) (nonce l : List (BitVec 8)) :
    turnP block key counter nonce l = overlaid (fun i => l.getD i 0 ^^^ (turnP block key counter nonce (List.replicate l.length 0)).getD i 0) l l.length := by
  rw [overlaid_all, turnP_get]
  refine List.map_congr_left fun i hi => ?_
  simp only [List.mem_range] at hi
  rw [turnP_get]
  simp only [List.length_replicate, List.getD_eq_getElem?_getD]
  rw [List.getElem?_map, List.getElem?_range hi]
  simp only [Option.map_some, Option.getD_some, turnByte]
  simp [List.getD_eq_getElem?_getD, hi]

theorem c_speaks03  (w0 : World)   : CallsR Try.prog 7 #[] w0 (fun r w1 => r = (bl true) ∧ Ext w0 w1) := by
  refine callsR_of_cw (args := []) Try.func7 rfl Try.ntmps7 Try.results7 rfl ?_
  have hm0 : Mem w0 (restOf w0) [] := Mem.of_world w0
  refine cw_seq ?_
  refine cw_region ?_
  refine rw_q rfl (ev_assign (v := (bl false)) rfl) ?_
  refine rw_nil ?_
  refine kThen_normal ?_
  refine cw_seq ?_
  refine cw_region ?_
  refine rw_q rfl (ev_build_cl u32 [286331153#32, 16909060#32, 2609737539#32, 19088743#32] u32_one ti23 Try.underlying23 ti22 rfl rfl) ?_
  refine rw_c rfl (opR_call Try.func8 bd8 nm8 (args1 rfl) (c_quarter 286331153#32 16909060#32 2609737539#32 19088743#32 _)) ?_
  rintro _ w1 ⟨rfl, _ew1⟩
  have hm1 := hm0.ext _ew1
  refine rw_q rfl (ev_build_cl u32 [3928658676#32, 3407673550#32, 1166100270#32, 1484899515#32] u32_one ti23 Try.underlying23 ti22 rfl rfl) ?_
  refine rw_q rfl (ev_u32arr_eql (l := quarterL rotl32 286331153#32 16909060#32 2609737539#32 19088743#32) (m := [3928658676#32, 3407673550#32, 1166100270#32, 1484899515#32]) Try.underlying23 Try.underlying22 ti22 Try.eqGuardType23 rfl rfl (by first | rfl | first | omega | (simp only [List.length_set, List.length_append, List.length_replicate, List.length_map, List.length_cons, List.length_nil]; omega) | (simp; done) | (simp; omega)) (by first | rfl | first | omega | (simp only [List.length_set, List.length_append, List.length_replicate, List.length_map, List.length_cons, List.length_nil]; omega) | (simp; done) | (simp; omega))) ?_
  refine rw_q rfl (ev_assign rfl) ?_
  refine rw_nil ?_
  refine kThen_normal ?_
  refine cw_ret ?_
  refine fnPost_ret [(bl ((quarterL rotl32 286331153#32 16909060#32 2609737539#32 19088743#32) == ([3928658676#32, 3407673550#32, 1166100270#32, 1484899515#32])))] ⟨rfl, trivial⟩ ?_
  exact ⟨congrArg bl speaks_told, hm1.toExt⟩

theorem law_quarters (a b c d a' b' c' d' : BitVec 32) (w0 : World)   : CallsR Try.prog 3 #[(agg u32 ([a, b, c, d])), (agg u32 ([a', b', c', d']))] w0 (fun r w1 => r = bl true ∧ RowKit.Below w0.heap.size w0 w1) := by
  refine callsR_of_cw (args := [(agg u32 ([a, b, c, d])), (agg u32 ([a', b', c', d']))]) Try.func3 rfl Try.ntmps3 Try.results3 rfl ?_
  have hm0 : Mem w0 (restOf w0) [] := Mem.of_world w0
  refine cw_seq ?_
  refine cw_region ?_
  refine rw_c rfl (or_box_agg (f := u32) (l := [a, b, c, d]) hm0 rfl) ?_
  rintro _ w1 ⟨b2, rfl, _ew1, hm1⟩
  refine rw_c rfl (or_box_agg (f := u32) (l := [a', b', c', d']) hm1 rfl) ?_
  rintro _ w2 ⟨b3, rfl, _ew2, hm2⟩
  refine rw_q rfl (ev_assign (v := (bl false)) rfl) ?_
  refine rw_nil ?_
  refine kThen_normal ?_
  refine cw_seq ?_
  refine cw_seq ?_
  refine cw_region ?_
  refine rw_c rfl (opR_call Try.func7 bd7 nm7 (args0) (c_speaks03 _)) ?_
  rintro _ w3 ⟨rfl, _ew3⟩
  have hm3 := hm2.ext _ew3
  refine rw_q (v := (bl false)) rfl (ev_not (b := true) rfl) ?_
  refine rw_nil ?_
  refine kThen_normal ?_
  refine cw_cond_f rfl (by decide) ?_
  refine cw_skip ?_
  refine kThen_normal ?_
  refine cw_seq ?_
  refine cw_draw [(0, false), (1, false), (2, false), (3, false), (4, false), (5, false), (6, false), (7, false), (8, false), (9, false), (10, false), (11, false), (12, false)] 13 (by kernel_rfl) ?_
  refine dw_q (v := (agg u32 ([a, b, c, d]))) rfl rfl (fun _ _hx => ev_loadA Try.underlying23 rfl ti23 rfl (hm3.ext _hx).h1 (by rw [size_cl]; first | omega | (simp only [List.length_set, List.length_append, List.length_replicate, List.length_map, List.length_cons, List.length_nil]; omega) | (simp; done) | (simp; omega))) ?_
  refine dw_x (v := (agg u32 (quarterL rotl32 a b c d))) rfl rfl (fun w4 _ew4 => OpR.mono (opR_call Try.func8 bd8 nm8 (args1 rfl) (c_quarter a b c d _)) (by rintro _ w5 ⟨rfl, _ew5⟩; exact ⟨rfl, _ew5⟩)) ?_
  refine dw_q (v := (agg u32 ([a', b', c', d']))) rfl rfl (fun _ _hx => ev_loadA Try.underlying23 rfl ti23 rfl (hm3.ext _hx).h0 (by rw [size_cl]; first | omega | (simp only [List.length_set, List.length_append, List.length_replicate, List.length_map, List.length_cons, List.length_nil]; omega) | (simp; done) | (simp; omega))) ?_
  refine dw_x (v := (agg u32 (quarterL rotl32 a' b' c' d'))) rfl rfl (fun w6 _ew6 => OpR.mono (opR_call Try.func8 bd8 nm8 (args1 rfl) (c_quarter a' b' c' d' _)) (by rintro _ w7 ⟨rfl, _ew7⟩; exact ⟨rfl, _ew7⟩)) ?_
  refine dw_q rfl rfl (fun _ _hx => ev_u32arr_eql (l := quarterL rotl32 a b c d) (m := quarterL rotl32 a' b' c' d') Try.underlying23 Try.underlying22 ti22 Try.eqGuardType23 rfl rfl (by first | rfl | first | omega | (simp only [List.length_set, List.length_append, List.length_replicate, List.length_map, List.length_cons, List.length_nil]; omega) | (simp; done) | (simp; omega)) (by first | rfl | first | omega | (simp only [List.length_set, List.length_append, List.length_replicate, List.length_map, List.length_cons, List.length_nil]; omega) | (simp; done) | (simp; omega))) ?_
  refine dw_q (v := (agg u32 ([a, b, c, d]))) rfl rfl (fun _ _hx => ev_loadA Try.underlying23 rfl ti23 rfl (hm3.ext _hx).h1 (by rw [size_cl]; first | omega | (simp only [List.length_set, List.length_append, List.length_replicate, List.length_map, List.length_cons, List.length_nil]; omega) | (simp; done) | (simp; omega))) ?_
  refine dw_q (v := (agg u32 ([a', b', c', d']))) rfl rfl (fun _ _hx => ev_loadA Try.underlying23 rfl ti23 rfl (hm3.ext _hx).h0 (by rw [size_cl]; first | omega | (simp only [List.length_set, List.length_append, List.length_replicate, List.length_map, List.length_cons, List.length_nil]; omega) | (simp; done) | (simp; omega))) ?_
  refine dw_q rfl rfl (fun _ _hx => ev_u32arr_eql (l := [a, b, c, d]) (m := [a', b', c', d']) Try.underlying23 Try.underlying22 ti22 Try.eqGuardType23 rfl rfl (by first | rfl | first | omega | (simp only [List.length_set, List.length_append, List.length_replicate, List.length_map, List.length_cons, List.length_nil]; omega) | (simp; done) | (simp; omega)) (by first | rfl | first | omega | (simp only [List.length_set, List.length_append, List.length_replicate, List.length_map, List.length_cons, List.length_nil]; omega) | (simp; done) | (simp; omega))) ?_
  refine dw_q rfl rfl (fun _ _hx => ev_bool_eql Try.underlying4 rfl rfl) ?_
  refine dw_q rfl rfl (fun _ _hx => ev_move rfl) ?_
  have hd8 : (((quarterL rotl32 a b c d) == (quarterL rotl32 a' b' c' d')) == (([a, b, c, d]) == ([a', b', c', d']))) = true := quarters_told a b c d a' b' c' d'
  refine dw_gqy (s := 16) rfl rfl rfl hd8 rfl (fun _ _hx => ev_build_arr (ps := []) (c := (cl u32 (List.replicate 4 0))) ti23 Try.underlying23 ti22 (by simp) rfl) ?_
  refine dw_gxy (s := 16) (v := (agg u32 (quarterL rotl32 0 0 0 0))) rfl rfl rfl hd8 rfl (fun w9 _ew9 => OpR.mono (opR_call Try.func8 bd8 nm8 (args1 rfl) (c_quarter 0 0 0 0 _)) (by rintro _ w10 ⟨rfl, _ew10⟩; exact ⟨rfl, _ew10⟩)) ?_
  refine dw_gqy (s := 16) rfl rfl rfl hd8 rfl (fun _ _hx => ev_build_arr (ps := []) (c := (cl u32 (List.replicate 4 0))) ti23 Try.underlying23 ti22 (by simp) rfl) ?_
  refine dw_nil (fun w11 _ew11 => ?_)
  have hm11 := hm3.ext _ew11
  refine rw_gyq (s := 16) rfl rfl hd8 rfl (ev_u32arr_eql (l := quarterL rotl32 0 0 0 0) (m := List.replicate 4 0) Try.underlying23 Try.underlying22 ti22 Try.eqGuardType23 rfl rfl (by first | rfl | first | omega | (simp only [List.length_set, List.length_append, List.length_replicate, List.length_map, List.length_cons, List.length_nil]; omega) | (simp; done) | (simp; omega)) (by first | rfl | first | omega | (simp only [List.length_set, List.length_append, List.length_replicate, List.length_map, List.length_cons, List.length_nil]; omega) | (simp; done) | (simp; omega))) ?_
  refine rw_q rfl (ev_pick_tk rfl hd8 rfl) ?_
  refine rw_q rfl (ev_assign (v := (bl ((quarterL rotl32 0 0 0 0) == (List.replicate 4 0)))) rfl) ?_
  refine rw_nil ?_
  refine kThen_normal ?_
  refine CW.abs (fun g => g 0 = (agg u32 ([a, b, c, d])) ∧ g 1 = (agg u32 ([a', b', c', d'])) ∧ g 2 = (ptr b2 0) ∧ g 3 = (ptr b3 0) ∧ g 4 = (bl ((quarterL rotl32 0 0 0 0) == (List.replicate 4 0))) ∧ g 6 = (bl false) ∧ True) ⟨rfl, rfl, rfl, rfl, rfl, rfl, trivial⟩ ?_
  rintro fr12 ⟨s0, s1, s2, s3, s4, s6, _⟩
  refine cw_ret ?_
  refine fnPost_ret [(bl ((quarterL rotl32 0 0 0 0) == (List.replicate 4 0)))] ⟨s4, trivial⟩ ?_
  exact ⟨congrArg bl (by decide), Mem.below w0 hm11⟩

theorem law_blocks (key : List (BitVec 8)) (counter : BitVec 32) (nonce : List (BitVec 8)) (a b c d : BitVec 32) (w0 : World)  (hk : key.length = 32) (hn : nonce.length = 12) : CallsR Try.prog 4 #[(agg u8 key), (u32 counter), (agg u8 nonce), (agg u32 ([a, b, c, d]))] w0 (fun r w1 => r = bl true ∧ RowKit.Below w0.heap.size w0 w1) := by
  refine callsR_of_cw (args := [(agg u8 key), (u32 counter), (agg u8 nonce), (agg u32 ([a, b, c, d]))]) Try.func4 rfl Try.ntmps4 Try.results4 rfl ?_
  have hm0 : Mem w0 (restOf w0) [] := Mem.of_world w0
  refine cw_seq ?_
  refine cw_region ?_
  refine rw_c rfl (or_box_agg (f := u8) (l := key) hm0 rfl) ?_
  rintro _ w1 ⟨b4, rfl, _ew1, hm1⟩
  refine rw_c rfl (or_box_agg (f := u8) (l := nonce) hm1 rfl) ?_
  rintro _ w2 ⟨b6, rfl, _ew2, hm2⟩
  refine rw_c rfl (or_box_agg (f := u32) (l := [a, b, c, d]) hm2 rfl) ?_
  rintro _ w3 ⟨b7, rfl, _ew3, hm3⟩
  refine rw_q rfl (ev_assign (v := (bl false)) rfl) ?_
  refine rw_nil ?_
  refine kThen_normal ?_
  refine cw_seq ?_
  refine cw_seq ?_
  refine cw_region ?_
  refine rw_c rfl (opR_call Try.func7 bd7 nm7 (args0) (c_speaks03 _)) ?_
  rintro _ w4 ⟨rfl, _ew4⟩
  have hm4 := hm3.ext _ew4
  refine rw_q (v := (bl false)) rfl (ev_not (b := true) rfl) ?_
  refine rw_nil ?_
  refine kThen_normal ?_
  refine cw_cond_f rfl (by decide) ?_
  refine cw_skip ?_
  refine kThen_normal ?_
  refine cw_seq ?_
  refine cw_region ?_
  refine rw_q (v := (agg u8 key)) rfl (ev_loadA Try.underlying28 rfl ti28 rfl hm4.h2 (by rw [size_cl]; first | omega | (simp only [List.length_set, List.length_append, List.length_replicate, List.length_map, List.length_cons, List.length_nil]; omega) | (simp; done) | (simp; omega))) ?_
  refine rw_q rfl (ev_move (v := (u32 counter)) rfl) ?_
  refine rw_q (v := (agg u8 nonce)) rfl (ev_loadA Try.underlying30 rfl ti30 rfl hm4.h1 (by rw [size_cl]; first | omega | (simp only [List.length_set, List.length_append, List.length_replicate, List.length_map, List.length_cons, List.length_nil]; omega) | (simp; done) | (simp; omega))) ?_
  refine rw_c rfl (opR_call Try.func9 bd9 nm9 (args3 rfl rfl rfl) (c_block key counter nonce _ (by first | omega | (simp only [List.length_set, List.length_append, List.length_replicate, List.length_map, List.length_cons, List.length_nil]; omega) | (simp; done) | (simp; omega)) (by first | omega | (simp only [List.length_set, List.length_append, List.length_replicate, List.length_map, List.length_cons, List.length_nil]; omega) | (simp; done) | (simp; omega)))) ?_
  rintro _ w5 ⟨rfl, _ew5⟩
  have hm5 := hm4.ext _ew5
  refine rw_c rfl (or_alloc_agg hm5 ti31) ?_
  rintro _ w6 ⟨b9, rfl, _ew6, hm6⟩
  refine rw_n (or_store_agg (f := u8) (l := blockP key counter nonce) u8_one ti31 rfl rfl (by first | omega | (simp only [List.length_set, List.length_append, List.length_replicate, List.length_map, List.length_cons, List.length_nil]; omega) | (simp; done) | (simp; omega)) hm6.h0 (by rw [size_cl]; first | omega | (simp only [List.length_set, List.length_append, List.length_replicate, List.length_map, List.length_cons, List.length_nil]; omega) | (simp; done) | (simp; omega)) rfl) ?_
  rintro _ w7 uq7
  have hm7 := hm6.upd0 uq7
  refine rw_nil ?_
  refine kThen_normal ?_
  refine CW.abs (fun g => g 0 = (agg u8 key) ∧ g 1 = (u32 counter) ∧ g 2 = (agg u8 nonce) ∧ g 3 = (agg u32 ([a, b, c, d])) ∧ g 4 = (ptr b4 0) ∧ g 6 = (ptr b6 0) ∧ g 7 = (ptr b7 0) ∧ g 8 = (bl false) ∧ g 9 = (ptr b9 0) ∧ g 11 = (bl false) ∧ True) ⟨rfl, rfl, rfl, rfl, rfl, rfl, rfl, rfl, rfl, rfl, trivial⟩ ?_
  rintro fr8 ⟨s0, s1, s2, s3, s4, s6, s7, s8, s9, s11, _⟩
  refine cw_seq ?_
  refine cw_draw [(0, false), (1, false), (2, false), (3, false), (4, false), (5, false), (6, false), (7, false), (8, false), (9, false), (10, true)] 11 (by kernel_rfl) ?_
  refine dw_q (v := (agg u32 ([a, b, c, d]))) rfl rfl (fun _ _hx => ev_loadA Try.underlying23 rfl ti23 s7 (hm7.ext _hx).h1 (by rw [size_cl]; first | omega | (simp only [List.length_set, List.length_append, List.length_replicate, List.length_map, List.length_cons, List.length_nil]; omega) | (simp; done) | (simp; omega))) ?_
  refine dw_x (v := (agg u32 (quarterL rotl32 a b c d))) rfl rfl (fun w9 _ew9 => OpR.mono (opR_call Try.func8 bd8 nm8 (args1 rfl) (c_quarter a b c d _)) (by rintro _ w10 ⟨rfl, _ew10⟩; exact ⟨rfl, _ew10⟩)) ?_
  refine dw_q (v := (agg u32 ([a, b, c, d]))) rfl rfl (fun _ _hx => ev_loadA Try.underlying23 rfl ti23 s7 (hm7.ext _hx).h1 (by rw [size_cl]; first | omega | (simp only [List.length_set, List.length_append, List.length_replicate, List.length_map, List.length_cons, List.length_nil]; omega) | (simp; done) | (simp; omega))) ?_
  refine dw_x (v := (agg u32 (quarterL left3 a b c d))) rfl rfl (fun w11 _ew11 => OpR.mono (opR_call Try.func10 bd10 nm10 (args1 rfl) (c_quarter3 a b c d _)) (by rintro _ w12 ⟨rfl, _ew12⟩; exact ⟨rfl, _ew12⟩)) ?_
  refine dw_q rfl rfl (fun _ _hx => ev_u32arr_eql (l := quarterL rotl32 a b c d) (m := quarterL left3 a b c d) Try.underlying23 Try.underlying22 ti22 Try.eqGuardType23 rfl rfl (by first | rfl | first | omega | (simp only [List.length_set, List.length_append, List.length_replicate, List.length_map, List.length_cons, List.length_nil]; omega) | (simp; done) | (simp; omega)) (by first | rfl | first | omega | (simp only [List.length_set, List.length_append, List.length_replicate, List.length_map, List.length_cons, List.length_nil]; omega) | (simp; done) | (simp; omega))) ?_
  refine dw_q rfl rfl (fun _ _hx => ev_move (v := (bl ((quarterL rotl32 a b c d) == (quarterL left3 a b c d)))) rfl) ?_
  have hd13 : ((quarterL rotl32 a b c d) == (quarterL left3 a b c d)) = true := told_true (quarter_same _ _ _ _)
  refine dw_gqy (s := 21) rfl rfl rfl hd13 rfl (fun _ _hx => ev_slice_sla (i := 0) (j := 64) Try.underlying31 ti5 s9 (optI_none _ _) (optI_none _ _) (by omega) (by first | omega | (simp only [List.length_set, List.length_append, List.length_replicate, List.length_map, List.length_cons, List.length_nil]; omega) | (simp; done) | (simp; omega)) (by first | omega | (simp only [List.length_set, List.length_append, List.length_replicate, List.length_map, List.length_cons, List.length_nil]; omega) | (simp; done) | (simp; omega))) ?_
  refine dw_gqy (s := 21) rfl rfl rfl hd13 rfl (fun _ _hx => ev_loadA Try.underlying28 rfl ti28 s4 (hm7.ext _hx).h3 (by rw [size_cl]; first | omega | (simp only [List.length_set, List.length_append, List.length_replicate, List.length_map, List.length_cons, List.length_nil]; omega) | (simp; done) | (simp; omega))) ?_
  refine dw_gqy (s := 21) rfl rfl rfl hd13 rfl (fun _ _hx => ev_move (v := (u32 counter)) s1) ?_
  refine dw_gqy (s := 21) rfl rfl rfl hd13 rfl (fun _ _hx => ev_loadA Try.underlying30 rfl ti30 s6 (hm7.ext _hx).h2 (by rw [size_cl]; first | omega | (simp only [List.length_set, List.length_append, List.length_replicate, List.length_map, List.length_cons, List.length_nil]; omega) | (simp; done) | (simp; omega))) ?_
  refine dw_gcy (s := 21) rfl rfl rfl hd13 rfl (fun w14 _ew14 => ?_)
  have hm14 := hm7.ext _ew14
  refine OpR.mono (opR_call Try.func12 bd12 nm12 (args3 rfl rfl rfl) (c_block3 key counter nonce _ (by first | omega | (simp only [List.length_set, List.length_append, List.length_replicate, List.length_map, List.length_cons, List.length_nil]; omega) | (simp; done) | (simp; omega)) (by first | omega | (simp only [List.length_set, List.length_append, List.length_replicate, List.length_map, List.length_cons, List.length_nil]; omega) | (simp; done) | (simp; omega)))) ?_
  rintro rq16 w15 ⟨Hsq16, grq16, k_w15⟩
  refine ⟨k_w15.toExt, ?_⟩
  have hm15 : Mem w15 (restOf w0) (Hsq16 ++ ([(b9, .cells (cl u8 (blockP key counter nonce)) 31 (0, 0)), (b7, .cells (cl u32 ([a, b, c, d])) 23 (0, 0)), (b6, .cells (cl u8 nonce) 30 (0, 0)), (b4, .cells (cl u8 key) 28 (0, 0))])) := Mem.new (H := [(b9, .cells (cl u8 (blockP key counter nonce)) 31 (0, 0)), (b7, .cells (cl u32 ([a, b, c, d])) 23 (0, 0)), (b6, .cells (cl u8 nonce) 30 (0, 0)), (b4, .cells (cl u8 key) 28 (0, 0))]) (H' := Hsq16) hm14 k_w15
  refine dw_nil (fun w17 _ew17 => ?_)
  have hm17 := hm15.ext _ew17
  refine rw_gy (s := 21) rfl rfl hd13 rfl (opR_call Try.func11 bd11 nm11 (args2 rfl rfl) (c_same (sla b9 0 1 0 64 64) rq16 (blockP key counter nonce) (blockR key counter nonce) _ (Rd.slaAll (hm17.own (b9, .cells (cl u8 (blockP key counter nonce)) 31 (0, 0)) (by simp)) (by first | omega | (simp only [List.length_set, List.length_append, List.length_replicate, List.length_map, List.length_cons, List.length_nil]; omega) | (simp; done) | (simp; omega))) (grq16.rd hm17) (by first | omega | (simp only [List.length_set, List.length_append, List.length_replicate, List.length_map, List.length_cons, List.length_nil]; omega) | (simp; done) | (simp; omega)))) ?_
  rintro _ w18 ⟨rfl, _ew18⟩
  have hm18 := hm17.ext _ew18
  refine rw_q rfl (ev_pick_tk rfl hd13 rfl) ?_
  refine rw_q rfl (ev_assign (v := (bl ((blockP key counter nonce) == (blockR key counter nonce)))) rfl) ?_
  refine rw_nil ?_
  refine kThen_normal ?_
  have hm19 := Mem.drop Hsq16 _ hm18
  refine CW.abs (fun g => g 0 = (agg u8 key) ∧ g 1 = (u32 counter) ∧ g 2 = (agg u8 nonce) ∧ g 3 = (agg u32 ([a, b, c, d])) ∧ g 4 = (ptr b4 0) ∧ g 6 = (ptr b6 0) ∧ g 7 = (ptr b7 0) ∧ g 8 = (bl ((blockP key counter nonce) == (blockR key counter nonce))) ∧ g 9 = (ptr b9 0) ∧ g 11 = (bl false) ∧ True) ⟨s0, s1, s2, s3, s4, s6, s7, rfl, s9, s11, trivial⟩ ?_
  rintro fr20 ⟨s0, s1, s2, s3, s4, s6, s7, s8, s9, s11, _⟩
  refine cw_ret ?_
  refine fnPost_ret [(bl ((blockP key counter nonce) == (blockR key counter nonce)))] ⟨s8, trivial⟩ ?_
  exact ⟨congrArg bl (told_true (block_same _ _ _)), Mem.below w0 hm19⟩

theorem law_turns (key : List (BitVec 8)) (counter : BitVec 32) (nonce : List (BitVec 8)) (v : Value) (l : List (BitVec 8)) (w0 : World)  (hk : key.length = 32) (hn : nonce.length = 12) (hr : Rd (blks w0) u8 v l) (hl : l.length ≤ 9223372036854775807) : CallsR Try.prog 5 #[(agg u8 key), (u32 counter), (agg u8 nonce), v] w0 (fun r w1 => r = bl true ∧ RowKit.Below w0.heap.size w0 w1) := by
  refine callsR_of_cw (args := [(agg u8 key), (u32 counter), (agg u8 nonce), v]) Try.func5 rfl Try.ntmps5 Try.results5 rfl ?_
  have hm0 : Mem w0 (restOf w0) [] := Mem.of_world w0
  refine cw_seq ?_
  refine cw_region ?_
  refine rw_c rfl (or_box_agg (f := u8) (l := key) hm0 rfl) ?_
  rintro _ w1 ⟨b4, rfl, _ew1, hm1⟩
  refine rw_c rfl (or_box_agg (f := u8) (l := nonce) hm1 rfl) ?_
  rintro _ w2 ⟨b6, rfl, _ew2, hm2⟩
  refine rw_q rfl (ev_assign (v := (bl false)) rfl) ?_
  refine rw_nil ?_
  refine kThen_normal ?_
  refine cw_seq ?_
  refine cw_seq ?_
  refine cw_region ?_
  refine rw_c rfl (opR_call Try.func7 bd7 nm7 (args0) (c_speaks03 _)) ?_
  rintro _ w3 ⟨rfl, _ew3⟩
  have hm3 := hm2.ext _ew3
  refine rw_q (v := (bl false)) rfl (ev_not (b := true) rfl) ?_
  refine rw_nil ?_
  refine kThen_normal ?_
  refine cw_cond_f rfl (by decide) ?_
  refine cw_skip ?_
  refine kThen_normal ?_
  refine cw_seq ?_
  refine cw_seq ?_
  refine cw_region ?_
  refine rw_q rfl (ev_move (v := v) rfl) ?_
  refine rw_q (v := (i64 (l.length : Int))) rfl (ev_len_rd (hr.ext hm3.toExt) Try.underlying34 rfl) ?_
  refine rw_q rfl (ev_i64_gtr (b := 3000) rfl rfl) ?_
  refine rw_nil ?_
  refine kThen_normal ?_
  refine cw_cond rfl (fun hc4 => ?_) (fun hc4 => ?_)
  · -- true
    have hc4p := of_decide_eq_true hc4
    refine cw_seq ?_
    refine cw_region ?_
    refine rw_q rfl (ev_assign (v := (bl true)) rfl) ?_
    refine rw_nil ?_
    refine kThen_normal ?_
    refine cw_ret ?_
    refine kThen_ret ?_
    refine fnPost_ret [(bl true)] ⟨rfl, trivial⟩ ?_
    exact ⟨rfl, Mem.below w0 hm3⟩
  · -- false
    have hc4p := of_decide_eq_false hc4
    refine cw_skip ?_
    refine kThen_normal ?_
    refine cw_seq ?_
    refine cw_region ?_
    refine rw_c rfl (or_buildSlice_cl u8 [] u8_one hm3 Try.underlying34 ti5 rfl (by simp [pairs]) rfl) ?_
    rintro _ w5 ⟨b16, rfl, _ew5, hm5⟩
    refine rw_q rfl (ev_move (v := v) rfl) ?_
    refine rw_c rfl (or_append (f := u8) hm5 (Grow.of u8 5 b16 ([])) rfl rfl (hr.ext hm5.toExt) Try.underlying34 Try.underlying34 ti5 rfl u8_one (by first | omega | (simp only [List.length_set, List.length_append, List.length_replicate, List.length_map, List.length_cons, List.length_nil]; omega) | (simp; done) | (simp; omega)) (by first | omega | (simp only [List.length_set, List.length_append, List.length_replicate, List.length_map, List.length_cons, List.length_nil]; omega) | (simp; done) | (simp; omega))) ?_
    rintro sv6 w6 ⟨Hs6, hm6, g6⟩
    replace g6 : Grow u8 5 sv6 l Hs6 := g6
    refine rw_q rfl (ev_assign (v := sv6) rfl) ?_
    refine rw_nil ?_
    refine kThen_normal ?_
    refine CW.abs (fun g => g 0 = (agg u8 key) ∧ g 1 = (u32 counter) ∧ g 2 = (agg u8 nonce) ∧ g 3 = v ∧ g 4 = (ptr b4 0) ∧ g 6 = (ptr b6 0) ∧ g 8 = (bl false) ∧ g 9 = sv6 ∧ g 12 = (bl false) ∧ g 15 = (bl (decide (3000 < (l.length : Int)))) ∧ True) ⟨rfl, rfl, rfl, rfl, rfl, rfl, rfl, rfl, rfl, rfl, trivial⟩ ?_
    rintro fr7 ⟨s0, s1, s2, s3, s4, s6, s8, s9, s12, s15, _⟩
    refine cw_seq ?_
    refine cw_region ?_
    refine rw_q (v := (agg u8 key)) rfl (ev_loadA Try.underlying28 rfl ti28 s4 (hm6.own (b4, .cells (cl u8 key) 28 (0, 0)) (by simp)) (by rw [size_cl]; first | omega | (simp only [List.length_set, List.length_append, List.length_replicate, List.length_map, List.length_cons, List.length_nil]; omega) | (simp; done) | (simp; omega))) ?_
    refine rw_q rfl (ev_move (v := (u32 counter)) s1) ?_
    refine rw_q (v := (agg u8 nonce)) rfl (ev_loadA Try.underlying30 rfl ti30 s6 (hm6.own (b6, .cells (cl u8 nonce) 30 (0, 0)) (by simp)) (by rw [size_cl]; first | omega | (simp only [List.length_set, List.length_append, List.length_replicate, List.length_map, List.length_cons, List.length_nil]; omega) | (simp; done) | (simp; omega))) ?_
    refine rw_q rfl (ev_move (v := sv6) s9) ?_
    refine rw_c rfl (opR_call Try.func13 bd13 nm13 (args4 rfl rfl rfl rfl) (c_turn key counter nonce sv6 l _ (by first | omega | (simp only [List.length_set, List.length_append, List.length_replicate, List.length_map, List.length_cons, List.length_nil]; omega) | (simp; done) | (simp; omega)) (by first | omega | (simp only [List.length_set, List.length_append, List.length_replicate, List.length_map, List.length_cons, List.length_nil]; omega) | (simp; done) | (simp; omega)) (g6.rd hm6) (by first | omega | (simp only [List.length_set, List.length_append, List.length_replicate, List.length_map, List.length_cons, List.length_nil]; omega) | (simp; done) | (simp; omega)))) ?_
    rintro _ w8 ⟨bq9, rfl, k_w8⟩
    have hm8 : Mem w8 (restOf w0) ([(bq9, .cells (cl u8 (turnP blockP key counter nonce l)) 5 (0, 0))] ++ (Hs6 ++ ([(b6, .cells (cl u8 nonce) 30 (0, 0)), (b4, .cells (cl u8 key) 28 (0, 0))]))) := Mem.new (H := Hs6 ++ ([(b6, .cells (cl u8 nonce) 30 (0, 0)), (b4, .cells (cl u8 key) 28 (0, 0))])) (H' := [(bq9, .cells (cl u8 (turnP blockP key counter nonce l)) 5 (0, 0))]) hm6 k_w8
    refine rw_q rfl (ev_assign rfl) ?_
    refine rw_nil ?_
    refine kThen_normal ?_
    refine cw_seq ?_
    refine cw_region ?_
    refine rw_q rfl (ev_move rfl) ?_
    refine rw_q (v := (agg u8 key)) rfl (ev_loadA Try.underlying28 rfl ti28 s4 (hm8.own (b4, .cells (cl u8 key) 28 (0, 0)) (by simp)) (by rw [size_cl]; first | omega | (simp only [List.length_set, List.length_append, List.length_replicate, List.length_map, List.length_cons, List.length_nil]; omega) | (simp; done) | (simp; omega))) ?_
    refine rw_q rfl (ev_move (v := (u32 counter)) s1) ?_
    refine rw_q (v := (agg u8 nonce)) rfl (ev_loadA Try.underlying30 rfl ti30 s6 (hm8.own (b6, .cells (cl u8 nonce) 30 (0, 0)) (by simp)) (by rw [size_cl]; first | omega | (simp only [List.length_set, List.length_append, List.length_replicate, List.length_map, List.length_cons, List.length_nil]; omega) | (simp; done) | (simp; omega))) ?_
    refine rw_q rfl (ev_move (v := v) s3) ?_
    refine rw_c rfl (opR_call Try.func14 bd14 nm14 (args4 rfl rfl rfl rfl) (c_turn3 key counter nonce v l _ (by first | omega | (simp only [List.length_set, List.length_append, List.length_replicate, List.length_map, List.length_cons, List.length_nil]; omega) | (simp; done) | (simp; omega)) (by first | omega | (simp only [List.length_set, List.length_append, List.length_replicate, List.length_map, List.length_cons, List.length_nil]; omega) | (simp; done) | (simp; omega)) (hr.ext hm8.toExt) (by first | omega | (simp only [List.length_set, List.length_append, List.length_replicate, List.length_map, List.length_cons, List.length_nil]; omega) | (simp; done) | (simp; omega)))) ?_
    rintro rq11 w10 ⟨Hsq11, grq11, k_w10⟩
    have hm10 : Mem w10 (restOf w0) (Hsq11 ++ ([(bq9, .cells (cl u8 (turnP blockP key counter nonce l)) 5 (0, 0))] ++ (Hs6 ++ ([(b6, .cells (cl u8 nonce) 30 (0, 0)), (b4, .cells (cl u8 key) 28 (0, 0))])))) := Mem.new (H := [(bq9, .cells (cl u8 (turnP blockP key counter nonce l)) 5 (0, 0))] ++ (Hs6 ++ ([(b6, .cells (cl u8 nonce) 30 (0, 0)), (b4, .cells (cl u8 key) 28 (0, 0))]))) (H' := Hsq11) hm8 k_w10
    refine rw_c rfl (opR_call Try.func11 bd11 nm11 (args2 rfl rfl) (c_same (slc bq9 0 ((turnP blockP key counter nonce l).length) ((turnP blockP key counter nonce l).length)) rq11 (turnP blockP key counter nonce l) (turnP blockR key counter nonce l) _ (Rd.mkA (hm10.own (bq9, .cells (cl u8 (turnP blockP key counter nonce l)) 5 (0, 0)) (by simp))) (grq11.rd hm10) (by first | omega | (simp only [List.length_set, List.length_append, List.length_replicate, List.length_map, List.length_cons, List.length_nil]; omega) | (simp; done) | (simp; omega)))) ?_
    rintro _ w12 ⟨rfl, _ew12⟩
    have hm12 := hm10.ext _ew12
    refine rw_q rfl (ev_move (v := (bl ((turnP blockP key counter nonce l) == (turnP blockR key counter nonce l)))) rfl) ?_
    have hd13 : ((turnP blockP key counter nonce l) == (turnP blockR key counter nonce l)) = true := told_true (turn_same _ _ _ _)
    refine rw_gyq (s := 31) rfl rfl hd13 rfl (ev_move (v := sv6) s9) ?_
    refine rw_gyq (s := 31) rfl rfl hd13 rfl (ev_move (v := v) s3) ?_
    refine rw_gy (s := 31) rfl rfl hd13 rfl (opR_call Try.func11 bd11 nm11 (args2 rfl rfl) (c_same sv6 v l l _ (g6.rd (Mem.pick2 Hsq11 [_] Hs6 _ hm12)) (hr.ext hm12.toExt) (by first | omega | (simp only [List.length_set, List.length_append, List.length_replicate, List.length_map, List.length_cons, List.length_nil]; omega) | (simp; done) | (simp; omega)))) ?_
    rintro _ w14 ⟨rfl, _ew14⟩
    have hm14 := hm12.ext _ew14
    refine rw_q rfl (ev_pick_tk rfl hd13 rfl) ?_
    refine rw_q rfl (ev_move (v := (bl (l == l))) rfl) ?_
    have hd15 : (l == l) = true := told_true rfl
    refine rw_gyq (s := 36) rfl rfl hd15 rfl (ev_loadA Try.underlying28 rfl ti28 s4 (hm14.own (b4, .cells (cl u8 key) 28 (0, 0)) (by simp)) (by rw [size_cl]; first | omega | (simp only [List.length_set, List.length_append, List.length_replicate, List.length_map, List.length_cons, List.length_nil]; omega) | (simp; done) | (simp; omega))) ?_
    refine rw_gyq (s := 36) rfl rfl hd15 rfl (ev_move (v := (u32 counter)) s1) ?_
    refine rw_gyq (s := 36) rfl rfl hd15 rfl (ev_loadA Try.underlying30 rfl ti30 s6 (hm14.own (b6, .cells (cl u8 nonce) 30 (0, 0)) (by simp)) (by rw [size_cl]; first | omega | (simp only [List.length_set, List.length_append, List.length_replicate, List.length_map, List.length_cons, List.length_nil]; omega) | (simp; done) | (simp; omega))) ?_
    refine rw_gyq (s := 36) rfl rfl hd15 rfl (ev_move rfl) ?_
    refine rw_gy (s := 36) rfl rfl hd15 rfl (opR_call Try.func13 bd13 nm13 (args4 rfl rfl rfl rfl) (c_turn key counter nonce (slc bq9 0 ((turnP blockP key counter nonce l).length) ((turnP blockP key counter nonce l).length)) (turnP blockP key counter nonce l) _ (by first | omega | (simp only [List.length_set, List.length_append, List.length_replicate, List.length_map, List.length_cons, List.length_nil]; omega) | (simp; done) | (simp; omega)) (by first | omega | (simp only [List.length_set, List.length_append, List.length_replicate, List.length_map, List.length_cons, List.length_nil]; omega) | (simp; done) | (simp; omega)) (Rd.mkA (hm14.own (bq9, .cells (cl u8 (turnP blockP key counter nonce l)) 5 (0, 0)) (by simp))) (by first | omega | (simp only [List.length_set, List.length_append, List.length_replicate, List.length_map, List.length_cons, List.length_nil]; omega) | (simp; done) | (simp; omega)))) ?_
    rintro _ w16 ⟨bq17, rfl, k_w16⟩
    have hm16 : Mem w16 (restOf w0) ([(bq17, .cells (cl u8 (turnP blockP key counter nonce (turnP blockP key counter nonce l))) 5 (0, 0))] ++ (Hsq11 ++ ([(bq9, .cells (cl u8 (turnP blockP key counter nonce l)) 5 (0, 0))] ++ (Hs6 ++ ([(b6, .cells (cl u8 nonce) 30 (0, 0)), (b4, .cells (cl u8 key) 28 (0, 0))]))))) := Mem.new (H := Hsq11 ++ ([(bq9, .cells (cl u8 (turnP blockP key counter nonce l)) 5 (0, 0))] ++ (Hs6 ++ ([(b6, .cells (cl u8 nonce) 30 (0, 0)), (b4, .cells (cl u8 key) 28 (0, 0))])))) (H' := [(bq17, .cells (cl u8 (turnP blockP key counter nonce (turnP blockP key counter nonce l))) 5 (0, 0))]) hm14 k_w16
    refine rw_gyq (s := 36) rfl rfl hd15 rfl (ev_move (v := v) s3) ?_
    refine rw_gy (s := 36) rfl rfl hd15 rfl (opR_call Try.func11 bd11 nm11 (args2 rfl rfl) (c_same (slc bq17 0 ((turnP blockP key counter nonce (turnP blockP key counter nonce l)).length) ((turnP blockP key counter nonce (turnP blockP key counter nonce l)).length)) v (turnP blockP key counter nonce (turnP blockP key counter nonce l)) l _ (Rd.mkA hm16.h0) (hr.ext hm16.toExt) (by first | omega | (simp only [List.length_set, List.length_append, List.length_replicate, List.length_map, List.length_cons, List.length_nil]; omega) | (simp; done) | (simp; omega)))) ?_
    rintro _ w18 ⟨rfl, _ew18⟩
    have hm18 := hm16.ext _ew18
    refine rw_q rfl (ev_pick_tk rfl hd15 rfl) ?_
    refine rw_q rfl (ev_assign (v := (bl ((turnP blockP key counter nonce (turnP blockP key counter nonce l)) == l))) rfl) ?_
    refine rw_nil ?_
    refine kThen_normal ?_
    have hm19 := Mem.drop ([(bq17, .cells (cl u8 (turnP blockP key counter nonce (turnP blockP key counter nonce l))) 5 (0, 0))]) _ hm18
    have hm20 := Mem.drop Hsq11 _ hm19
    refine CW.abs (fun g => g 0 = (agg u8 key) ∧ g 1 = (u32 counter) ∧ g 2 = (agg u8 nonce) ∧ g 3 = v ∧ g 4 = (ptr b4 0) ∧ g 6 = (ptr b6 0) ∧ g 8 = (bl ((turnP blockP key counter nonce (turnP blockP key counter nonce l)) == l)) ∧ g 9 = sv6 ∧ g 10 = (slc bq9 0 ((turnP blockP key counter nonce l).length) ((turnP blockP key counter nonce l).length)) ∧ g 12 = (bl false) ∧ g 15 = (bl (decide (3000 < (l.length : Int)))) ∧ True) ⟨s0, s1, s2, s3, s4, s6, rfl, s9, rfl, s12, s15, trivial⟩ ?_
    rintro fr21 ⟨s0, s1, s2, s3, s4, s6, s8, s9, s10, s12, s15, _⟩
    refine cw_ret ?_
    refine fnPost_ret [(bl ((turnP blockP key counter nonce (turnP blockP key counter nonce l)) == l))] ⟨s8, trivial⟩ ?_
    exact ⟨congrArg bl (told_true (turn_turn _ _ _ _ _)), Mem.below w0 hm20⟩

set_option maxHeartbeats 1000000 in
theorem law_cuts (key : List (BitVec 8)) (counter : BitVec 32) (nonce : List (BitVec 8)) (v : Value) (l : List (BitVec 8)) (blocks : Int) (w0 : World)  (hk : key.length = 32) (hn : nonce.length = 12) (hr : Rd (blks w0) u8 v l) (hl : l.length ≤ 9223372036854775807) (hb : -9223372036854775808 ≤ blocks ∧ blocks ≤ 9223372036854775807) : CallsR Try.prog 6 #[(agg u8 key), (u32 counter), (agg u8 nonce), v, (i64 blocks)] w0 (fun r w1 => r = bl true ∧ RowKit.Below w0.heap.size w0 w1) := by
  refine callsR_of_cw (args := [(agg u8 key), (u32 counter), (agg u8 nonce), v, (i64 blocks)]) Try.func6 rfl Try.ntmps6 Try.results6 rfl ?_
  have hm0 : Mem w0 (restOf w0) [] := Mem.of_world w0
  refine cw_seq ?_
  refine cw_region ?_
  refine rw_c rfl (or_box_agg (f := u8) (l := key) hm0 rfl) ?_
  rintro _ w1 ⟨b5, rfl, _ew1, hm1⟩
  refine rw_c rfl (or_box_agg (f := u8) (l := nonce) hm1 rfl) ?_
  rintro _ w2 ⟨b7, rfl, _ew2, hm2⟩
  refine rw_q rfl (ev_assign (v := (bl false)) rfl) ?_
  refine rw_nil ?_
  refine kThen_normal ?_
  refine cw_seq ?_
  refine cw_seq ?_
  refine cw_region ?_
  refine rw_c rfl (opR_call Try.func7 bd7 nm7 (args0) (c_speaks03 _)) ?_
  rintro _ w3 ⟨rfl, _ew3⟩
  have hm3 := hm2.ext _ew3
  refine rw_q (v := (bl false)) rfl (ev_not (b := true) rfl) ?_
  refine rw_nil ?_
  refine kThen_normal ?_
  refine cw_cond_f rfl (by decide) ?_
  refine cw_skip ?_
  refine kThen_normal ?_
  refine cw_seq ?_
  refine cw_seq ?_
  refine cw_region ?_
  refine rw_q rfl (ev_move (v := v) rfl) ?_
  refine rw_q (v := (i64 (l.length : Int))) rfl (ev_len_rd (hr.ext hm3.toExt) Try.underlying34 rfl) ?_
  refine rw_q rfl (ev_i64_gtr (b := 3000) rfl rfl) ?_
  refine rw_nil ?_
  refine kThen_normal ?_
  refine cw_cond rfl (fun hc4 => ?_) (fun hc4 => ?_)
  · -- true
    have hc4p := of_decide_eq_true hc4
    refine cw_seq ?_
    refine cw_region ?_
    refine rw_q rfl (ev_assign (v := (bl true)) rfl) ?_
    refine rw_nil ?_
    refine kThen_normal ?_
    refine cw_ret ?_
    refine kThen_ret ?_
    refine fnPost_ret [(bl true)] ⟨rfl, trivial⟩ ?_
    exact ⟨rfl, Mem.below w0 hm3⟩
  · -- false
    have hc4p := of_decide_eq_false hc4
    refine cw_skip ?_
    refine kThen_normal ?_
    refine cw_seq ?_
    have hand : (BitVec.ofInt 64 blocks).toNat &&& (63 : Int).toNat ≤ 63 := Nat.and_le_right
    refine cw_region ?_
    refine rw_q rfl (ev_move (v := (i64 blocks)) rfl) ?_
    refine rw_q rfl (ev_i64_and (b := 63) rfl rfl (by omega) (by omega)) ?_
    refine rw_q rfl (ev_i64_mul (b := 64) rfl rfl (by omega) (by omega)) ?_
    refine rw_q rfl (ev_move (v := v) rfl) ?_
    refine rw_q (v := (i64 (l.length : Int))) rfl (ev_len_rd (hr.ext hm3.toExt) Try.underlying34 rfl) ?_
    refine rw_q rfl (ev_i64_quo (b := 64) rfl rfl (by omega) (by omega) (by omega)) ?_
    refine rw_q rfl (ev_i64_mul (b := 64) rfl rfl (by omega) (by omega)) ?_
    refine rw_q (v := (i64 (if (((l.length : Int) / 64) * 64) < ((((BitVec.ofInt 64 blocks).toNat &&& (63 : Int).toNat : Nat) : Int) * 64) then ((l.length : Int) / 64) * 64 else (((BitVec.ofInt 64 blocks).toNat &&& (63 : Int).toNat : Nat) : Int) * 64))) rfl (ev_min_i64 rfl rfl) ?_
    refine rw_q rfl (ev_assign rfl) ?_
    refine rw_nil ?_
    refine kThen_normal ?_
    refine CW.abs (fun g => g 0 = (agg u8 key) ∧ g 1 = (u32 counter) ∧ g 2 = (agg u8 nonce) ∧ g 3 = v ∧ g 4 = (i64 blocks) ∧ g 5 = (ptr b5 0) ∧ g 7 = (ptr b7 0) ∧ g 10 = (bl false) ∧ g 11 = (i64 (if (((l.length : Int) / 64) * 64) < ((((BitVec.ofInt 64 blocks).toNat &&& (63 : Int).toNat : Nat) : Int) * 64) then ((l.length : Int) / 64) * 64 else (((BitVec.ofInt 64 blocks).toNat &&& (63 : Int).toNat : Nat) : Int) * 64)) ∧ g 18 = (bl false) ∧ g 21 = (bl (decide (3000 < (l.length : Int)))) ∧ True) ⟨rfl, rfl, rfl, rfl, rfl, rfl, rfl, rfl, rfl, rfl, rfl, trivial⟩ ?_
    rintro fr5 ⟨s0, s1, s2, s3, s4, s5, s7, s10, s11, s18, s21, _⟩
    refine cw_seq ?_
    obtain ⟨m, hm, hml⟩ : ∃ m : Nat, (if (((l.length : Int) / 64) * 64) < ((((BitVec.ofInt 64 blocks).toNat &&& (63 : Int).toNat : Nat) : Int) * 64) then ((l.length : Int) / 64) * 64 else (((BitVec.ofInt 64 blocks).toNat &&& (63 : Int).toNat : Nat) : Int) * 64) = ((64 * m : Nat) : Int) ∧ 64 * m ≤ l.length := by
      split
      · exact ⟨l.length / 64, by omega, by omega⟩
      · exact ⟨(BitVec.ofInt 64 blocks).toNat &&& (63 : Int).toNat, by omega, by omega⟩
    refine CW.abs (fun g => g 0 = (agg u8 key) ∧ g 1 = (u32 counter) ∧ g 2 = (agg u8 nonce) ∧ g 3 = v ∧ g 4 = (i64 blocks) ∧ g 5 = (ptr b5 0) ∧ g 7 = (ptr b7 0) ∧ g 10 = (bl false) ∧ g 11 = (i64 ((64 * m : Nat) : Int)) ∧ g 18 = (bl false) ∧ g 21 = (bl (decide (3000 < (l.length : Int)))) ∧ True) ⟨s0, s1, s2, s3, s4, s5, s7, s10, (Eq.trans s11 (congrArg i64 hm)), s18, s21, trivial⟩ ?_
    rintro fr6 ⟨s0, s1, s2, s3, s4, s5, s7, s10, s11, s18, s21, _⟩
    refine cw_draw [(0, false), (1, false), (2, false), (3, false), (4, false), (5, false), (7, false), (8, false), (9, false), (10, false), (11, false), (12, false), (13, false), (14, false), (15, false), (16, false), (6, true)] 17 (by kernel_rfl) ?_
    refine dw_q (v := (agg u8 key)) rfl rfl (fun _ _hx => ev_loadA Try.underlying28 rfl ti28 s5 (hm3.ext _hx).h1 (by rw [size_cl]; first | omega | (simp only [List.length_set, List.length_append, List.length_replicate, List.length_map, List.length_cons, List.length_nil]; omega) | (simp; done) | (simp; omega))) ?_
    refine dw_q rfl rfl (fun _ _hx => ev_move (v := (u32 counter)) s1) ?_
    refine dw_q (v := (agg u8 nonce)) rfl rfl (fun _ _hx => ev_loadA Try.underlying30 rfl ti30 s7 (hm3.ext _hx).h0 (by rw [size_cl]; first | omega | (simp only [List.length_set, List.length_append, List.length_replicate, List.length_map, List.length_cons, List.length_nil]; omega) | (simp; done) | (simp; omega))) ?_
    refine dw_q rfl rfl (fun _ _hx => ev_move (v := v) s3) ?_
    refine dw_q rfl rfl (fun _ _hx => ev_move (v := (i64 ((64 * m : Nat) : Int))) s11) ?_
    refine dw_q rfl rfl (fun _ _hx => ev_slice_rd (i := 0) (j := ((64 * m : Nat) : Int)) (hr.ext (hm3.ext _hx).toExt) Try.underlying34 ti5 rfl (optI_none _ _) (optI_some (k := .i64) (i := ((64 * m : Nat) : Int)) rfl) (by omega) (by first | omega | (simp only [List.length_set, List.length_append, List.length_replicate, List.length_map, List.length_cons, List.length_nil]; omega) | (simp; done) | (simp; omega)) (by first | omega | (simp only [List.length_set, List.length_append, List.length_replicate, List.length_map, List.length_cons, List.length_nil]; omega) | (simp; done) | (simp; omega))) ?_
    refine dw_q (v := (agg u8 key)) rfl rfl (fun _ _hx => ev_loadA Try.underlying28 rfl ti28 s5 (hm3.ext _hx).h1 (by rw [size_cl]; first | omega | (simp only [List.length_set, List.length_append, List.length_replicate, List.length_map, List.length_cons, List.length_nil]; omega) | (simp; done) | (simp; omega))) ?_
    refine dw_q rfl rfl (fun _ _hx => ev_move (v := (u32 counter)) s1) ?_
    refine dw_q rfl rfl (fun _ _hx => ev_move (v := (i64 ((64 * m : Nat) : Int))) s11) ?_
    refine dw_q rfl rfl (fun _ _hx => ev_i64_quo (b := 64) rfl rfl (by omega) (by omega) (by omega)) ?_
    refine dw_q rfl rfl (fun _ _hx => ev_conv_i64_u32 ⟨_, Try.underlying3⟩ Try.underlying22 rfl) ?_
    refine dw_q rfl rfl (fun _ _hx => ev_u32_add rfl rfl) ?_
    refine dw_q (v := (agg u8 nonce)) rfl rfl (fun _ _hx => ev_loadA Try.underlying30 rfl ti30 s7 (hm3.ext _hx).h0 (by rw [size_cl]; first | omega | (simp only [List.length_set, List.length_append, List.length_replicate, List.length_map, List.length_cons, List.length_nil]; omega) | (simp; done) | (simp; omega))) ?_
    refine dw_q rfl rfl (fun _ _hx => ev_move (v := v) s3) ?_
    refine dw_q rfl rfl (fun _ _hx => ev_move (v := (i64 ((64 * m : Nat) : Int))) s11) ?_
    refine dw_q rfl rfl (fun _ _hx => ev_slice_rd (i := ((64 * m : Nat) : Int)) (j := (l.length : Int)) (hr.ext (hm3.ext _hx).toExt) Try.underlying34 ti5 rfl (optI_some (k := .i64) (i := ((64 * m : Nat) : Int)) rfl) (optI_none _ _) (by omega) (by first | omega | (simp only [List.length_set, List.length_append, List.length_replicate, List.length_map, List.length_cons, List.length_nil]; omega) | (simp; done) | (simp; omega)) (by first | omega | (simp only [List.length_set, List.length_append, List.length_replicate, List.length_map, List.length_cons, List.length_nil]; omega) | (simp; done) | (simp; omega))) ?_
    refine dw_c rfl rfl (fun w7 _ew7 => ?_)
    have hm7 := hm3.ext _ew7
    refine OpR.mono (opR_call Try.func13 bd13 nm13 (args4 rfl rfl rfl rfl) (c_turn key counter nonce (subv v 0 ((64 * m : Nat) : Int)) ((l.drop (0 : Int).toNat).take ((((64 * m : Nat) : Int) : Int).toNat - (0 : Int).toNat)) _ (by first | omega | (simp only [List.length_set, List.length_append, List.length_replicate, List.length_map, List.length_cons, List.length_nil]; omega) | (simp; done) | (simp; omega)) (by first | omega | (simp only [List.length_set, List.length_append, List.length_replicate, List.length_map, List.length_cons, List.length_nil]; omega) | (simp; done) | (simp; omega)) (Rd.cast (l' := (l.drop (0 : Int).toNat).take ((((64 * m : Nat) : Int) : Int).toNat - (0 : Int).toNat)) (Rd.sub (hr.ext hm7.toExt) (by omega) (by first | omega | (simp only [List.length_set, List.length_append, List.length_replicate, List.length_map, List.length_cons, List.length_nil]; omega) | (simp; done) | (simp; omega)) (by first | omega | (simp only [List.length_set, List.length_append, List.length_replicate, List.length_map, List.length_cons, List.length_nil]; omega) | (simp; done) | (simp; omega))) rfl) (by first | omega | (simp only [List.length_set, List.length_append, List.length_replicate, List.length_map, List.length_cons, List.length_nil]; omega) | (simp; done) | (simp; omega)))) ?_
    rintro _ w8 ⟨bq9, rfl, k_w8⟩
    refine ⟨k_w8.toExt, ?_⟩
    have hm8 : Mem w8 (restOf w0) [(bq9, .cells (cl u8 (turnP blockP key counter nonce ((l.drop (0 : Int).toNat).take ((((64 * m : Nat) : Int) : Int).toNat - (0 : Int).toNat)))) 5 (0, 0)), (b7, .cells (cl u8 nonce) 30 (0, 0)), (b5, .cells (cl u8 key) 28 (0, 0))] := Mem.new (H := [(b7, .cells (cl u8 nonce) 30 (0, 0)), (b5, .cells (cl u8 key) 28 (0, 0))]) (H' := [(bq9, .cells (cl u8 (turnP blockP key counter nonce ((l.drop (0 : Int).toNat).take ((((64 * m : Nat) : Int) : Int).toNat - (0 : Int).toNat)))) 5 (0, 0))]) hm7 k_w8
    refine dw_nil (fun w10 _ew10 => ?_)
    have hm10 := hm8.ext _ew10
    refine rw_c rfl (opR_call Try.func13 bd13 nm13 (args4 rfl rfl rfl rfl) (c_turn key (counter + (BitVec.ofInt 32 (((64 * m : Nat) : Int) / 64))) nonce (subv v ((64 * m : Nat) : Int) (l.length : Int)) ((l.drop (((64 * m : Nat) : Int) : Int).toNat).take (((l.length : Int) : Int).toNat - (((64 * m : Nat) : Int) : Int).toNat)) _ (by first | omega | (simp only [List.length_set, List.length_append, List.length_replicate, List.length_map, List.length_cons, List.length_nil]; omega) | (simp; done) | (simp; omega)) (by first | omega | (simp only [List.length_set, List.length_append, List.length_replicate, List.length_map, List.length_cons, List.length_nil]; omega) | (simp; done) | (simp; omega)) (Rd.cast (l' := (l.drop (((64 * m : Nat) : Int) : Int).toNat).take (((l.length : Int) : Int).toNat - (((64 * m : Nat) : Int) : Int).toNat)) (Rd.sub (hr.ext hm10.toExt) (by omega) (by first | omega | (simp only [List.length_set, List.length_append, List.length_replicate, List.length_map, List.length_cons, List.length_nil]; omega) | (simp; done) | (simp; omega)) (by first | omega | (simp only [List.length_set, List.length_append, List.length_replicate, List.length_map, List.length_cons, List.length_nil]; omega) | (simp; done) | (simp; omega))) rfl) (by first | omega | (simp only [List.length_set, List.length_append, List.length_replicate, List.length_map, List.length_cons, List.length_nil]; omega) | (simp; done) | (simp; omega)))) ?_
    rintro _ w11 ⟨bq12, rfl, k_w11⟩
    have hm11 : Mem w11 (restOf w0) [(bq12, .cells (cl u8 (turnP blockP key (counter + (BitVec.ofInt 32 (((64 * m : Nat) : Int) / 64))) nonce ((l.drop (((64 * m : Nat) : Int) : Int).toNat).take (((l.length : Int) : Int).toNat - (((64 * m : Nat) : Int) : Int).toNat)))) 5 (0, 0)), (bq9, .cells (cl u8 (turnP blockP key counter nonce ((l.drop (0 : Int).toNat).take ((((64 * m : Nat) : Int) : Int).toNat - (0 : Int).toNat)))) 5 (0, 0)), (b7, .cells (cl u8 nonce) 30 (0, 0)), (b5, .cells (cl u8 key) 28 (0, 0))] := Mem.new (H := [(bq9, .cells (cl u8 (turnP blockP key counter nonce ((l.drop (0 : Int).toNat).take ((((64 * m : Nat) : Int) : Int).toNat - (0 : Int).toNat)))) 5 (0, 0)), (b7, .cells (cl u8 nonce) 30 (0, 0)), (b5, .cells (cl u8 key) 28 (0, 0))]) (H' := [(bq12, .cells (cl u8 (turnP blockP key (counter + (BitVec.ofInt 32 (((64 * m : Nat) : Int) / 64))) nonce ((l.drop (((64 * m : Nat) : Int) : Int).toNat).take (((l.length : Int) : Int).toNat - (((64 * m : Nat) : Int) : Int).toNat)))) 5 (0, 0))]) hm10 k_w11
    refine rw_c rfl (or_append (f := u8) (Mem.pick [_] [_] _ hm11) (Grow.of u8 5 bq9 (turnP blockP key counter nonce ((l.drop (0 : Int).toNat).take ((((64 * m : Nat) : Int) : Int).toNat - (0 : Int).toNat)))) rfl rfl (Rd.mkA hm11.h0) Try.underlying34 Try.underlying34 ti5 rfl u8_one (by first | omega | (simp only [List.length_set, List.length_append, List.length_replicate, List.length_map, List.length_cons, List.length_nil]; omega) | (simp; done) | (simp; omega)) (by first | omega | (simp only [List.length_set, List.length_append, List.length_replicate, List.length_map, List.length_cons, List.length_nil]; omega) | (simp; done) | (simp; omega))) ?_
    rintro sv13 w13 ⟨Hs13, hm13, g13⟩
    replace g13 : Grow u8 5 sv13 ((turnP blockP key counter nonce ((l.drop (0 : Int).toNat).take ((((64 * m : Nat) : Int) : Int).toNat - (0 : Int).toNat))) ++ (turnP blockP key (counter + (BitVec.ofInt 32 (((64 * m : Nat) : Int) / 64))) nonce ((l.drop (((64 * m : Nat) : Int) : Int).toNat).take (((l.length : Int) : Int).toNat - (((64 * m : Nat) : Int) : Int).toNat)))) Hs13 := g13
    refine rw_q rfl (ev_assign (v := sv13) rfl) ?_
    refine rw_nil ?_
    refine kThen_normal ?_
    have hm14 := Mem.drop ([(bq12, .cells (cl u8 (turnP blockP key (counter + (BitVec.ofInt 32 (((64 * m : Nat) : Int) / 64))) nonce ((l.drop (((64 * m : Nat) : Int) : Int).toNat).take (((l.length : Int) : Int).toNat - (((64 * m : Nat) : Int) : Int).toNat)))) 5 (0, 0))]) _ (Mem.pick Hs13 [_] _ hm13)
    refine CW.abs (fun g => g 0 = (agg u8 key) ∧ g 1 = (u32 counter) ∧ g 2 = (agg u8 nonce) ∧ g 3 = v ∧ g 4 = (i64 blocks) ∧ g 5 = (ptr b5 0) ∧ g 7 = (ptr b7 0) ∧ g 10 = (bl false) ∧ g 11 = (i64 ((64 * m : Nat) : Int)) ∧ g 12 = sv13 ∧ g 18 = (bl false) ∧ g 21 = (bl (decide (3000 < (l.length : Int)))) ∧ True) ⟨s0, s1, s2, s3, s4, s5, s7, s10, s11, rfl, s18, s21, trivial⟩ ?_
    rintro fr15 ⟨s0, s1, s2, s3, s4, s5, s7, s10, s11, s12, s18, s21, _⟩
    refine cw_seq ?_
    refine cw_draw [(0, false), (1, false), (2, false), (3, false), (4, false), (5, true)] 6 (by kernel_rfl) ?_
    refine dw_q (v := (agg u8 key)) rfl rfl (fun _ _hx => ev_loadA Try.underlying28 rfl ti28 s5 ((hm14.ext _hx).own (b5, .cells (cl u8 key) 28 (0, 0)) (by simp)) (by rw [size_cl]; first | omega | (simp only [List.length_set, List.length_append, List.length_replicate, List.length_map, List.length_cons, List.length_nil]; omega) | (simp; done) | (simp; omega))) ?_
    refine dw_q rfl rfl (fun _ _hx => ev_move (v := (u32 counter)) s1) ?_
    refine dw_q (v := (agg u8 nonce)) rfl rfl (fun _ _hx => ev_loadA Try.underlying30 rfl ti30 s7 ((hm14.ext _hx).own (b7, .cells (cl u8 nonce) 30 (0, 0)) (by simp)) (by rw [size_cl]; first | omega | (simp only [List.length_set, List.length_append, List.length_replicate, List.length_map, List.length_cons, List.length_nil]; omega) | (simp; done) | (simp; omega))) ?_
    refine dw_q rfl rfl (fun _ _hx => ev_move (v := v) s3) ?_
    refine dw_q (v := (i64 (l.length : Int))) rfl rfl (fun _ _hx => ev_len_rd (hr.ext (hm14.ext _hx).toExt) Try.underlying34 rfl) ?_
    refine dw_c rfl rfl (fun w16 _ew16 => ?_)
    have hm16 := hm14.ext _ew16
    refine OpR.mono (or_makeSlice hm16 Try.underlying34 ti5 rfl rfl (by omega) (by omega) (by omega) (by omega)) ?_
    rintro _ w17 ⟨b54, rfl, _ew17, hm17⟩
    rw [rep_cells u8 0 rfl] at hm17
    refine ⟨_ew17, ?_⟩
    have hm17 : Mem w17 (restOf w0) ([(b54, .cells (cl u8 (List.replicate l.length (0 : BitVec 8))) 5 (0, 0))] ++ (Hs13 ++ ([(b7, .cells (cl u8 nonce) 30 (0, 0)), (b5, .cells (cl u8 key) 28 (0, 0))]))) := hm17
    refine dw_nil (fun w18 _ew18 => ?_)
    have hm18 := hm17.ext _ew18
    refine rw_c rfl (opR_call Try.func13 bd13 nm13 (args4 rfl rfl rfl rfl) (c_turn key counter nonce (slc b54 0 l.length l.length) (List.replicate l.length (0 : BitVec 8)) _ (by first | omega | (simp only [List.length_set, List.length_append, List.length_replicate, List.length_map, List.length_cons, List.length_nil]; omega) | (simp; done) | (simp; omega)) (by first | omega | (simp only [List.length_set, List.length_append, List.length_replicate, List.length_map, List.length_cons, List.length_nil]; omega) | (simp; done) | (simp; omega)) (Rd.mkE hm18.h0 (by first | omega | (simp only [List.length_set, List.length_append, List.length_replicate, List.length_map, List.length_cons, List.length_nil]; omega) | (simp; done) | (simp; omega))) (by first | omega | (simp only [List.length_set, List.length_append, List.length_replicate, List.length_map, List.length_cons, List.length_nil]; omega) | (simp; done) | (simp; omega)))) ?_
    rintro _ w19 ⟨bq20, rfl, k_w19⟩
    have hm19 : Mem w19 (restOf w0) ([(bq20, .cells (cl u8 (turnP blockP key counter nonce (List.replicate l.length (0 : BitVec 8)))) 5 (0, 0)), (b54, .cells (cl u8 (List.replicate l.length (0 : BitVec 8))) 5 (0, 0))] ++ (Hs13 ++ ([(b7, .cells (cl u8 nonce) 30 (0, 0)), (b5, .cells (cl u8 key) 28 (0, 0))]))) := Mem.new (H := [(b54, .cells (cl u8 (List.replicate l.length (0 : BitVec 8))) 5 (0, 0))] ++ (Hs13 ++ ([(b7, .cells (cl u8 nonce) 30 (0, 0)), (b5, .cells (cl u8 key) 28 (0, 0))]))) (H' := [(bq20, .cells (cl u8 (turnP blockP key counter nonce (List.replicate l.length (0 : BitVec 8)))) 5 (0, 0))]) hm18 k_w19
    refine rw_q rfl (ev_assign rfl) ?_
    refine rw_nil ?_
    refine kThen_normal ?_
    refine cw_seq ?_
    refine cw_region ?_
    refine rw_c rfl (or_buildSlice_cl u8 [] u8_one hm19 Try.underlying34 ti5 rfl (by simp [pairs]) rfl) ?_
    rintro _ w21 ⟨b56, rfl, _ew21, hm21⟩
    refine rw_q rfl (ev_move (v := v) s3) ?_
    refine rw_c rfl (or_append (f := u8) hm21 (Grow.of u8 5 b56 ([])) rfl rfl (hr.ext hm21.toExt) Try.underlying34 Try.underlying34 ti5 rfl u8_one (by first | omega | (simp only [List.length_set, List.length_append, List.length_replicate, List.length_map, List.length_cons, List.length_nil]; omega) | (simp; done) | (simp; omega)) (by first | omega | (simp only [List.length_set, List.length_append, List.length_replicate, List.length_map, List.length_cons, List.length_nil]; omega) | (simp; done) | (simp; omega))) ?_
    rintro sv22 w22 ⟨Hs22, hm22, g22⟩
    replace g22 : Grow u8 5 sv22 l Hs22 := g22
    refine rw_q rfl (ev_assign (v := sv22) rfl) ?_
    refine rw_nil ?_
    refine kThen_normal ?_
    have hm23 := Mem.drop ([(b54, .cells (cl u8 (List.replicate l.length (0 : BitVec 8))) 5 (0, 0))]) _ (Mem.pick2 Hs22 [_] [_] _ hm22)
    refine CW.abs (fun g => g 0 = (agg u8 key) ∧ g 1 = (u32 counter) ∧ g 2 = (agg u8 nonce) ∧ g 3 = v ∧ g 4 = (i64 blocks) ∧ g 5 = (ptr b5 0) ∧ g 7 = (ptr b7 0) ∧ g 10 = (bl false) ∧ g 11 = (i64 ((64 * m : Nat) : Int)) ∧ g 12 = sv13 ∧ g 13 = (slc bq20 0 ((turnP blockP key counter nonce (List.replicate l.length (0 : BitVec 8))).length) ((turnP blockP key counter nonce (List.replicate l.length (0 : BitVec 8))).length)) ∧ g 14 = sv22 ∧ g 18 = (bl false) ∧ g 21 = (bl (decide (3000 < (l.length : Int)))) ∧ True) ⟨s0, s1, s2, s3, s4, s5, s7, s10, s11, s12, rfl, rfl, s18, s21, trivial⟩ ?_
    rintro fr24 ⟨s0, s1, s2, s3, s4, s5, s7, s10, s11, s12, s13, s14, s18, s21, _⟩
    refine cw_seq ?_
    refine cw_seq ?_
    refine cw_region ?_
    refine rw_q rfl (ev_move (v := sv22) s14) ?_
    refine rw_q (v := (i64 (l.length : Int))) rfl (ev_len_rd (g22.rd hm23) Try.underlying34 rfl) ?_
    refine rw_q rfl (ev_move (v := (i64 0)) rfl) ?_
    refine rw_nil ?_
    refine kThen_normal ?_
    refine cw_block ?_
    refine cw_loop (fun g wv => ∃ (k : Nat) (zl : List (BitVec 8)) (Hz : List (Nat × Obj)), (k ≤ l.length) ∧ (zl = overlaid (fun i => l.getD i 0 ^^^ (turnP blockP key counter nonce (List.replicate l.length 0)).getD i 0) l k) ∧ (Grow u8 5 sv22 zl Hz) ∧ g 0 = (agg u8 key) ∧ g 1 = (u32 counter) ∧ g 2 = (agg u8 nonce) ∧ g 3 = v ∧ g 4 = (i64 blocks) ∧ g 5 = (ptr b5 0) ∧ g 7 = (ptr b7 0) ∧ g 10 = (bl false) ∧ g 11 = (i64 ((64 * m : Nat) : Int)) ∧ g 12 = sv13 ∧ g 13 = (slc bq20 0 ((turnP blockP key counter nonce (List.replicate l.length (0 : BitVec 8))).length) ((turnP blockP key counter nonce (List.replicate l.length (0 : BitVec 8))).length)) ∧ g 14 = sv22 ∧ g 18 = (bl false) ∧ g 21 = (bl (decide (3000 < (l.length : Int)))) ∧ g 60 = (i64 (l.length : Int)) ∧ g 61 = (i64 (k : Int)) ∧ Mem wv (restOf w0) (Hz ++ ([(bq20, .cells (cl u8 (turnP blockP key counter nonce (List.replicate l.length (0 : BitVec 8)))) 5 (0, 0))] ++ (Hs13 ++ ([(b7, .cells (cl u8 nonce) 30 (0, 0)), (b5, .cells (cl u8 key) 28 (0, 0))]))))) (fun g _ => ((l.length : Int) - RowKit.intOf (g 61)).toNat) ?_ ?_
    · exact ⟨0, l, Hs22, (by omega), (by simp [overlaid]), g22, s0, s1, s2, s3, s4, s5, s7, s10, s11, s12, s13, s14, s18, s21, rfl, rfl, hm23⟩
    · rintro fr25 w26 ⟨k, zl, Hz, hk1, hz, gz, s0, s1, s2, s3, s4, s5, s7, s10, s11, s12, s13, s14, s18, s21, s60, s61, hm26⟩
      have z61 := s61
      have z14 := s14
      have hzl : zl.length = l.length := by rw [hz, overlaid_length _ _ _ (by omega)]
      refine cw_seq ?_
      refine cw_region ?_
      refine rw_q rfl (ev_i64_lss s61 s60) ?_
      refine rw_nil ?_
      refine kThen_normal ?_
      refine cw_seq ?_
      refine cw_cond rfl (fun hc27 => ?_) (fun hc27 => ?_)
      · -- true
        have hc27p := of_decide_eq_true hc27
        refine cw_skip ?_
        refine kThen_normal ?_
        refine cw_seq ?_
        refine cw_block ?_
        refine cw_seq ?_
        refine cw_region ?_
        refine rw_q rfl (ev_move (v := (i64 (k : Int))) s61) ?_
        refine rw_q rfl (ev_assign (v := (i64 (k : Int))) rfl) ?_
        refine rw_nil ?_
        refine kThen_normal ?_
        refine cw_draw [(0, false), (1, false), (2, false), (3, false), (4, false), (5, false), (6, false), (7, false)] 8 (by kernel_rfl) ?_
        refine dw_q rfl rfl (fun _ _hx => ev_move (v := sv22) s14) ?_
        refine dw_q rfl rfl (fun _ _hx => ev_move (v := (i64 (k : Int))) rfl) ?_
        refine dw_q rfl rfl (fun _ _hx => ev_indexAddr_rdv (gz.rd (hm26.ext _hx)) Try.underlying34 ti5 rfl rfl (by omega) (by first | omega | (simp only [List.length_set, List.length_append, List.length_replicate, List.length_map, List.length_cons, List.length_nil]; omega) | (simp; done) | (simp; omega))) ?_
        refine dw_q (v := (u8 (zl.getD k 0))) rfl rfl (fun _ _hx => ev_load_rdD (l := zl) (i := (k : Int)) (dflt := 0) (gz.rd (hm26.ext _hx)) Try.underlying5 rfl (by omega) (by first | omega | (simp only [List.length_set, List.length_append, List.length_replicate, List.length_map, List.length_cons, List.length_nil]; omega) | (simp; done) | (simp; omega)) rfl) ?_
        refine dw_q rfl rfl (fun _ _hx => ev_move s13) ?_
        refine dw_q rfl rfl (fun _ _hx => ev_move (v := (i64 (k : Int))) rfl) ?_
        refine dw_q rfl rfl (fun _ _hx => ev_ia_slc (r := k) (by omega) Try.underlying34 ti5 rfl rfl (by omega) (by first | omega | (simp only [List.length_set, List.length_append, List.length_replicate, List.length_map, List.length_cons, List.length_nil]; omega) | (simp; done) | (simp; omega))) ?_
        refine dw_q (v := (u8 ((turnP blockP key counter nonce (List.replicate l.length (0 : BitVec 8))).getD k 0))) rfl rfl (fun _ _hx => ev_load1 Try.underlying5 rfl rfl ((hm26.ext _hx).own (bq20, .cells (cl u8 (turnP blockP key counter nonce (List.replicate l.length (0 : BitVec 8)))) 5 (0, 0)) (by simp)) (get_clD _ _ 0 (by first | omega | (simp only [List.length_set, List.length_append, List.length_replicate, List.length_map, List.length_cons, List.length_nil]; omega) | (simp; done) | (simp; omega)))) ?_
        refine dw_nil (fun w28 _ew28 => ?_)
        have hm28 := hm26.ext _ew28
        refine rw_q rfl (ev_u8_xor rfl rfl) ?_
        refine rw_q rfl (ev_indexAddr_rdv (gz.rd hm28) Try.underlying34 ti5 rfl rfl (by omega) (by first | omega | (simp only [List.length_set, List.length_append, List.length_replicate, List.length_map, List.length_cons, List.length_nil]; omega) | (simp; done) | (simp; omega))) ?_
        refine rw_n (or_store_grow (i := (k : Int)) (a := (zl.getD k 0) ^^^ ((turnP blockP key counter nonce (List.replicate l.length (0 : BitVec 8))).getD k 0)) hm28 gz u8_one ti5 (by omega) (by first | omega | (simp only [List.length_set, List.length_append, List.length_replicate, List.length_map, List.length_cons, List.length_nil]; omega) | (simp; done) | (simp; omega)) rfl rfl) ?_
        rintro _ w29 ⟨Hs29, hm29, g29⟩
        replace g29 : Grow u8 5 sv22 (zl.set k ((zl.getD k 0) ^^^ ((turnP blockP key counter nonce (List.replicate l.length (0 : BitVec 8))).getD k 0))) Hs29 := g29
        refine rw_nil ?_
        refine kBlk_normal ?_
        refine CW.abs (fun g => g 0 = (agg u8 key) ∧ g 1 = (u32 counter) ∧ g 2 = (agg u8 nonce) ∧ g 3 = v ∧ g 4 = (i64 blocks) ∧ g 5 = (ptr b5 0) ∧ g 7 = (ptr b7 0) ∧ g 10 = (bl false) ∧ g 11 = (i64 ((64 * m : Nat) : Int)) ∧ g 12 = sv13 ∧ g 13 = (slc bq20 0 ((turnP blockP key counter nonce (List.replicate l.length (0 : BitVec 8))).length) ((turnP blockP key counter nonce (List.replicate l.length (0 : BitVec 8))).length)) ∧ g 14 = sv22 ∧ g 15 = (i64 (k : Int)) ∧ g 18 = (bl false) ∧ g 21 = (bl (decide (3000 < (l.length : Int)))) ∧ g 60 = (i64 (l.length : Int)) ∧ g 61 = (i64 (k : Int)) ∧ g 62 = (bl (decide ((k : Int) < (l.length : Int)))) ∧ True) ⟨s0, s1, s2, s3, s4, s5, s7, s10, s11, s12, s13, s14, rfl, s18, s21, s60, s61, rfl, trivial⟩ ?_
        rintro fr30 ⟨s0, s1, s2, s3, s4, s5, s7, s10, s11, s12, s13, s14, s15, s18, s21, s60, s61, s62, _⟩
        refine cw_region ?_
        refine rw_q rfl (ev_i64_add (b := 1) s61 rfl (by omega) (by omega)) ?_
        refine rw_q rfl (ev_move (v := (i64 ((k : Int) + 1))) rfl) ?_
        refine rw_nil ?_
        refine kThen_normal ?_
        exact ⟨⟨k + 1, zl.set k ((zl.getD k 0) ^^^ ((turnP blockP key counter nonce (List.replicate l.length (0 : BitVec 8))).getD k 0)), Hs29, (by omega), (by rw [hz, overlaid_get]; exact overlaid_set _ _ _ (by omega) _ rfl), g29, s0, s1, s2, s3, s4, s5, s7, s10, s11, s12, s13, s14, s18, s21, s60, rfl, hm29⟩, meas rfl z61 (by omega) (by omega)⟩
      · -- false
        have hc27p := of_decide_eq_false hc27
        obtain rfl : k = l.length := by omega
        refine cw_exit ?_
        refine kThen_exit (kThen_exit (kBlk_hit ?_))
        refine cw_seq ?_
        refine cw_region ?_
        refine rw_q (v := (agg u8 key)) rfl (ev_loadA Try.underlying28 rfl ti28 s5 (hm26.own (b5, .cells (cl u8 key) 28 (0, 0)) (by simp)) (by rw [size_cl]; first | omega | (simp only [List.length_set, List.length_append, List.length_replicate, List.length_map, List.length_cons, List.length_nil]; omega) | (simp; done) | (simp; omega))) ?_
        refine rw_q rfl (ev_move (v := (u32 counter)) s1) ?_
        refine rw_q (v := (agg u8 nonce)) rfl (ev_loadA Try.underlying30 rfl ti30 s7 (hm26.own (b7, .cells (cl u8 nonce) 30 (0, 0)) (by simp)) (by rw [size_cl]; first | omega | (simp only [List.length_set, List.length_append, List.length_replicate, List.length_map, List.length_cons, List.length_nil]; omega) | (simp; done) | (simp; omega))) ?_
        refine rw_q rfl (ev_move (v := v) s3) ?_
        refine rw_c rfl (opR_call Try.func13 bd13 nm13 (args4 rfl rfl rfl rfl) (c_turn key counter nonce v l _ (by first | omega | (simp only [List.length_set, List.length_append, List.length_replicate, List.length_map, List.length_cons, List.length_nil]; omega) | (simp; done) | (simp; omega)) (by first | omega | (simp only [List.length_set, List.length_append, List.length_replicate, List.length_map, List.length_cons, List.length_nil]; omega) | (simp; done) | (simp; omega)) (hr.ext hm26.toExt) (by first | omega | (simp only [List.length_set, List.length_append, List.length_replicate, List.length_map, List.length_cons, List.length_nil]; omega) | (simp; done) | (simp; omega)))) ?_
        rintro _ w31 ⟨bq32, rfl, k_w31⟩
        have hm31 : Mem w31 (restOf w0) ([(bq32, .cells (cl u8 (turnP blockP key counter nonce l)) 5 (0, 0))] ++ (Hz ++ ([(bq20, .cells (cl u8 (turnP blockP key counter nonce (List.replicate l.length (0 : BitVec 8)))) 5 (0, 0))] ++ (Hs13 ++ ([(b7, .cells (cl u8 nonce) 30 (0, 0)), (b5, .cells (cl u8 key) 28 (0, 0))]))))) := Mem.new (H := Hz ++ ([(bq20, .cells (cl u8 (turnP blockP key counter nonce (List.replicate l.length (0 : BitVec 8)))) 5 (0, 0))] ++ (Hs13 ++ ([(b7, .cells (cl u8 nonce) 30 (0, 0)), (b5, .cells (cl u8 key) 28 (0, 0))])))) (H' := [(bq32, .cells (cl u8 (turnP blockP key counter nonce l)) 5 (0, 0))]) hm26 k_w31
        refine rw_q rfl (ev_assign rfl) ?_
        refine rw_nil ?_
        refine kThen_normal ?_
        refine cw_seq ?_
        refine cw_region ?_
        refine rw_q rfl (ev_move rfl) ?_
        refine rw_q rfl (ev_move (v := sv13) s12) ?_
        refine rw_c rfl (opR_call Try.func11 bd11 nm11 (args2 rfl rfl) (c_same (slc bq32 0 ((turnP blockP key counter nonce l).length) ((turnP blockP key counter nonce l).length)) sv13 (turnP blockP key counter nonce l) ((turnP blockP key counter nonce ((l.drop (0 : Int).toNat).take ((((64 * m : Nat) : Int) : Int).toNat - (0 : Int).toNat))) ++ (turnP blockP key (counter + (BitVec.ofInt 32 (((64 * m : Nat) : Int) / 64))) nonce ((l.drop (((64 * m : Nat) : Int) : Int).toNat).take (((l.length : Int) : Int).toNat - (((64 * m : Nat) : Int) : Int).toNat)))) _ (Rd.mkA hm31.h0) (g13.rd (Mem.pick3 [_] Hz [_] Hs13 _ hm31)) (by first | omega | (simp only [List.length_set, List.length_append, List.length_replicate, List.length_map, List.length_cons, List.length_nil]; omega) | (simp; done) | (simp; omega)))) ?_
        rintro _ w33 ⟨rfl, _ew33⟩
        have hm33 := hm31.ext _ew33
        refine rw_q rfl (ev_move rfl) ?_
        have hd34 : ((turnP blockP key counter nonce l) == ((turnP blockP key counter nonce ((l.drop (0 : Int).toNat).take ((((64 * m : Nat) : Int) : Int).toNat - (0 : Int).toNat))) ++ (turnP blockP key (counter + (BitVec.ofInt 32 (((64 * m : Nat) : Int) / 64))) nonce ((l.drop (((64 * m : Nat) : Int) : Int).toNat).take (((l.length : Int) : Int).toNat - (((64 * m : Nat) : Int) : Int).toNat))))) = true := told_true (cuts_same _ _ _ _ _ m hml).symm
        refine rw_gyq (s := 83) rfl rfl hd34 rfl (ev_move rfl) ?_
        refine rw_gyq (s := 83) rfl rfl hd34 rfl (ev_move (v := sv22) s14) ?_
        refine rw_gy (s := 83) rfl rfl hd34 rfl (opR_call Try.func11 bd11 nm11 (args2 rfl rfl) (c_same (slc bq32 0 ((turnP blockP key counter nonce l).length) ((turnP blockP key counter nonce l).length)) sv22 (turnP blockP key counter nonce l) zl _ (Rd.mkA hm33.h0) (gz.rd (Mem.pick [_] Hz _ hm33)) (by first | omega | (simp only [List.length_set, List.length_append, List.length_replicate, List.length_map, List.length_cons, List.length_nil]; omega) | (simp; done) | (simp; omega)))) ?_
        rintro _ w35 ⟨rfl, _ew35⟩
        have hm35 := hm33.ext _ew35
        refine rw_q rfl (ev_pick_tk rfl hd34 rfl) ?_
        refine rw_q rfl (ev_assign (v := (bl ((turnP blockP key counter nonce l) == zl))) rfl) ?_
        refine rw_nil ?_
        refine kThen_normal ?_
        refine CW.abs (fun g => g 0 = (agg u8 key) ∧ g 1 = (u32 counter) ∧ g 2 = (agg u8 nonce) ∧ g 3 = v ∧ g 4 = (i64 blocks) ∧ g 5 = (ptr b5 0) ∧ g 7 = (ptr b7 0) ∧ g 10 = (bl ((turnP blockP key counter nonce l) == zl)) ∧ g 11 = (i64 ((64 * m : Nat) : Int)) ∧ g 12 = sv13 ∧ g 13 = (slc bq20 0 ((turnP blockP key counter nonce (List.replicate l.length (0 : BitVec 8))).length) ((turnP blockP key counter nonce (List.replicate l.length (0 : BitVec 8))).length)) ∧ g 14 = sv22 ∧ g 16 = (slc bq32 0 ((turnP blockP key counter nonce l).length) ((turnP blockP key counter nonce l).length)) ∧ g 18 = (bl false) ∧ g 21 = (bl (decide (3000 < (l.length : Int)))) ∧ g 60 = (i64 (l.length : Int)) ∧ g 61 = (i64 (l.length : Int)) ∧ g 62 = (bl (decide ((l.length : Int) < (l.length : Int)))) ∧ True) ⟨s0, s1, s2, s3, s4, s5, s7, rfl, s11, s12, s13, s14, rfl, s18, s21, s60, s61, rfl, trivial⟩ ?_
        rintro fr36 ⟨s0, s1, s2, s3, s4, s5, s7, s10, s11, s12, s13, s14, s16, s18, s21, s60, s61, s62, _⟩
        refine cw_ret ?_
        refine fnPost_ret [(bl ((turnP blockP key counter nonce l) == zl))] ⟨s10, trivial⟩ ?_
        exact ⟨congrArg bl (told_true (by rw [hz]; exact xor_turn _ _ _ _ _)), Mem.below w0 hm35⟩


end Go.Proofs.Ytehkomhnmipnbaa
