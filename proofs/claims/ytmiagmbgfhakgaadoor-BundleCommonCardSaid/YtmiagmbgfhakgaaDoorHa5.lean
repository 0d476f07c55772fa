/- Contracts: hash, fifth part. Conditions: none beyond those that each theorem states. -/
import Derived.Test.YtmiagmbgfhakgaaDoorHa4
namespace Go.Proofs.YtmiagmbgfhakgaaDoor
set_option linter.unusedVariables false
set_option linter.unusedSimpArgs false

theorem hAt_take (h : List (BitVec 32)) (l p : List (BitVec 8)) : ∀ m, 64 * m ≤ l.length → hAt h (l ++ p) m = hAt h l m := by
  intro m
  induction m with
  | zero => intro _; rfl
  | succ m ih =>
    intro hm
    simp only [hAt]
    rw [ih oM]
    congr 1
    rw [List.drop_append_of_le_length oM, List.take_append_of_le_length (by simp; omega)]
theorem hAt_add (h : List (BitVec 32)) (l : List (BitVec 8)) (q : Nat) : ∀ m, hAt (hAt h l q) (l.drop (64 * q)) m = hAt h l (q + m) := by
  intro m
  induction m with
  | zero => rfl
  | succ m ih =>
    rw [← Nat.add_assoc]
    simp only [hAt]
    rw [ih, List.drop_drop]
    congr 4; omega
/-- A digest that has taken M. -/
structure Holds (M : List (BitVec 8)) (hs : List (BitVec 32)) (ll : List (BitVec 8)) (n : BitVec 64) : Prop where
  words : hs = hAt startL M (M.length / 64)
  left : ll = M.drop (64 * (M.length / 64))
  size : n = 0#64 + BitVec.ofInt 64 (M.length : Int)
theorem Holds.new : Holds [] [1779033703#32, 3144134277#32, 1013904242#32, 2773480762#32, 1359893119#32, 2600822924#32, 528734635#32, 1541459225#32] [] 0#64 := ⟨rfl, rfl, rfl⟩
theorem Holds.lt {M ll : List (BitVec 8)} {hs : List (BitVec 32)} {n : BitVec 64} (h : Holds M hs ll n) : ll.length < 64 := by rw [h.left]; simp; omega
theorem Holds.write {M ll p : List (BitVec 8)} {hs ys : List (BitVec 32)} {n : BitVec 64} (h : Holds M hs ll n) (hy : ys = hAt hs (ll ++ p) ((ll ++ p).length / 64)) :
    Holds (M ++ p) ys ((ll ++ p).drop (64 * ((ll ++ p).length / 64))) (n + BitVec.ofInt 64 (p.length : Int)) := by
  obtain ⟨rfl, rfl, rfl⟩ := h
  have e0 : M.drop (64 * (M.length / 64)) ++ p = (M ++ p).drop (64 * (M.length / 64)) := by rw [List.drop_append_of_le_length oM]
  have e1 : (M.drop (64 * (M.length / 64)) ++ p).length = M.length + p.length - 64 * (M.length / 64) := by simp; omega
  have e2 : M.length / 64 + (M.drop (64 * (M.length / 64)) ++ p).length / 64 = (M ++ p).length / 64 := by rw [e1]; simp; omega
  refine ⟨?_, ?_, ?_⟩
  · rw [hy, ← e2, ← hAt_take startL M p (M.length / 64) oM, e0, hAt_add]
  · rw [← e2]
    generalize (M.drop (64 * (M.length / 64)) ++ p).length / 64 = q
    rw [e0, List.drop_drop]; congr 1; omega
  · rw [BitVec.add_assoc, ← BitVec.ofInt_add]; simp
theorem Holds.sum {M ll : List (BitVec 8)} {hs : List (BitVec 32)} {n : BitVec 64} (h : Holds M hs ll n) : digestP hs ll n = sumP M := by
  obtain ⟨rfl, rfl, rfl⟩ := h; rfl
def keyP (key : List (BitVec 8)) : List (BitVec 8) := if 64 < key.length then sumP key else key
theorem keyP_le (key : List (BitVec 8)) : (keyP key).length ≤ 64 := by
  unfold keyP; split
  · simp
  · omega
def maskedP (key : List (BitVec 8)) (bb : BitVec 8) : List (BitVec 8) := (keyP key ++ List.replicate (64 - (keyP key).length) 0).map (· ^^^ bb)
@[simp] theorem maskedP_length (key : List (BitVec 8)) (bb : BitVec 8) : (maskedP key bb).length = 64 := by have := keyP_le key; simp [maskedP]; omega
def hmacP (key b : List (BitVec 8)) : List (BitVec 8) := sumP (maskedP key 92#8 ++ sumP (maskedP key 54#8 ++ b))
@[simp] theorem hmacP_length (key b : List (BitVec 8)) : (hmacP key b).length = 32 := sumP_length _
def overlaid {α : Type} (g : Nat → α) (l : List α) (k : Nat) : List α := (List.range k).map g ++ l.drop k
theorem overlaid_zero {α : Type} (g : Nat → α) (l : List α) : overlaid g l 0 = l := by simp [overlaid]
theorem overlaid_length {α : Type} (g : Nat → α) (l : List α) (k : Nat) (h : k ≤ l.length) : (overlaid g l k).length = l.length := by simp [overlaid]; omega
theorem overlaid_get {α : Type} (g : Nat → α) (l : List α) (k : Nat) (z : α) : (overlaid g l k).getD k z = l.getD k z := by
  simp [overlaid, List.getD_eq_getElem?_getD, List.getElem?_append_right]
theorem overlaid_set {α : Type} (g : Nat → α) (l : List α) (k : Nat) (h : k < l.length) (x : α) (hx : x = g k) : (overlaid g l k).set k x = overlaid g l (k + 1) := by
  subst hx
  unfold overlaid
  rw [List.set_append_right _ _ (by simp), List.range_succ, List.map_append, List.drop_eq_getElem_cons h]
  simp only [List.length_map, List.length_range, Nat.sub_self, List.set_cons_zero, List.map_cons, List.map_nil, List.append_assoc, List.cons_append, List.nil_append]
theorem overlaid_all {α : Type} (g : Nat → α) (l : List α) : overlaid g l l.length = (List.range l.length).map g := by simp [overlaid]
theorem map_getD {α β : Type} (f : α → β) (l : List α) (z : α) : (List.range l.length).map (fun i => f (l.getD i z)) = l.map f := by
  refine List.ext_getElem (by simp) fun i h1 h2 => ?_
  simp only [List.length_map, List.length_range] at h1
  simp [List.getD_eq_getElem?_getD, h1]
theorem mask_told {key M : List (BitVec 8)} {bb : BitVec 8} (hM : keyP key = M) : overlaid (fun i => (M ++ (List.replicate 64 0).drop M.length).getD i 0 ^^^ bb) (M ++ (List.replicate 64 0).drop M.length) 64 = maskedP key bb := by
  have hle := keyP_le key
  rw [hM] at hle
  have e : (M ++ (List.replicate 64 (0 : BitVec 8)).drop M.length).length = 64 := by simp; omega
  have h2 := overlaid_all (fun i => (M ++ (List.replicate 64 (0 : BitVec 8)).drop M.length).getD i 0 ^^^ bb) (M ++ (List.replicate 64 (0 : BitVec 8)).drop M.length)
  rw [e] at h2
  rw [h2]
  have h3 := map_getD (fun x => x ^^^ bb) (M ++ (List.replicate 64 (0 : BitVec 8)).drop M.length) 0
  rw [e] at h3
  rw [h3]
  unfold maskedP
  rw [hM, List.drop_replicate]
def joinL (ps : List (Value × List (BitVec 8))) : List (BitVec 8) := ps.flatMap (·.2)
theorem joinL_succ (ps : List (Value × List (BitVec 8))) (k : Nat) (h : k < ps.length) : joinL (ps.take (k + 1)) = joinL (ps.take k) ++ (ps.getD k (undef, [])).2 := by
  unfold joinL
  rw [List.take_add_one, List.flatMap_append]
  simp [List.getD_eq_getElem?_getD, h]
theorem joinL_le (ps : List (Value × List (BitVec 8))) (k : Nat) : (ps.getD k (undef, [])).2.length ≤ (joinL ps).length := by
  by_cases h : k < ps.length
  · have := joinL_succ ps k h
    have h2 : joinL ps = joinL (ps.take (k + 1)) ++ joinL (ps.drop (k + 1)) := by unfold joinL; rw [← List.flatMap_append, List.take_append_drop]
    rw [h2, this]; simp; omega
  · simp [List.getD_eq_getElem?_getD, Nat.le_of_not_lt h]
theorem getD_in {α : Type} {ps : List α} {k : Nat} {z : α} (h : k < ps.length) : ps.getD k z ∈ ps := by
  simp [List.getD_eq_getElem?_getD, h]
attribute [local irreducible] digestP sumP hAt takeP
theorem c_masked (vb : Value) (l : List (BitVec 8)) (bb : BitVec 8) (w0 : World)  (hT : Tabs (blks w0)) (hr : Rd (blks w0) u8 vb l) (hl : l.length ≤ 35184372088832) : CallsR Tryd.prog 43 #[vb, (u8 bb)] w0 (fun r w1 => ∃ b, r = slc b 0 (maskedP l bb).length (maskedP l bb).length ∧ Mem w1 (restOf w0) [(b, .cells (cl u8 (maskedP l bb)) 5 (0, 0))]) := by
 refine callsR_of_cw (args := [vb, (u8 bb)]) Tryd.func43 rfl Tryd.ntmps43 Tryd.results43 rfl ?_
 have hm0 : Mem w0 (restOf w0) [] := Mem.of_world w0
 refine sR <| rw_q rfl (ev_assign (v := (Value.slice none 0 0)) rfl) ?_
 refine rN (cw_seq (sR ?_))
 refine rM rfl (v := vb) rfl <| rw_q (v := (i64 (l.length : Int))) rfl (ev_len_rd (Rd.ofRest hr hm0) uT26 rfl) <| rw_q rfl (ev_i64_gtr (b := 64) rfl rfl) <| rN ?_
 refine cw_cond rfl (fun hc1 => ?_) (fun hc1 => ?_)
 · -- true
   have hc1p := of_decide_eq_true hc1
   refine sR <| rM rfl (v := vb) rfl <| rw_c rfl (opR_call Tryd.func45 bd45 nm45 (args1 rfl) (c_hsum vb l _ (hT.mono fun b o e => (hm0).rest b o e) (Rd.ofRest hr hm0) sD)) ?_
   rintro _ w2 ⟨rfl, _ew2⟩
   have hm2 := hm0.ext _ew2
   refine rw_c rfl (or_alloc_agg hm2 ti23) ?_
   rintro _ w4 ⟨b5, rfl, _ew4, hm4⟩
   refine rw_n (or_store_agg (f := u8) (l := sumP l) u8_one ti23 rfl rfl sD hm4.h0 sZ rfl) ?_
   rintro _ w5 uq5
   have hm5 := hm4.upd0 uq5
   refine rN (cw_region ?_)
   refine rw_q rfl (ev_slice_sla (i := 0) (j := 32) uT23 ti5 rfl (optI_none _ _) (optI_none _ _) oM sD sD) <| rw_q rfl (ev_assign (v := (sla b5 0 1 0 32 32)) rfl) ?_
   refine rN (sR ?_)
   refine rw_c rfl (or_makeSlice hm5 uT26 ti5 rfl rfl oM oM oM oM) ?_
   rintro _ w6 ⟨b14, rfl, _ew6, hm6⟩
   rw [rep_cells u8 0 rfl] at hm6
   have hm6 : Mem w6 (restOf w0) [(b14, .cells (cl u8 (List.replicate 64 (0 : BitVec 8))) 5 (0, 0)), (b5, .cells (cl u8 (sumP l)) 23 (0, 0))] := hm6
   refine rw_q rfl (ev_assign (v := (slc b14 0 64 64)) rfl) <| rN ?_
   refine CW.abs (fun g => g 0 = (sla b5 0 1 0 32 32) ∧ g 1 = (u8 bb) ∧ g 4 = (Value.slice none 0 0) ∧ g 5 = (ptr b5 0) ∧ g 6 = (slc b14 0 64 64) ∧ g 10 = (bl (decide (64 < (l.length : Int)))) ∧ True) ⟨rfl, rfl, rfl, rfl, rfl, rfl, trivial⟩ ?_
   rintro fr7 ⟨s0, s1, s4, s5, s6, s10, _⟩
   refine sR <| rM rfl s6 <| rM rfl s0 <| rw_c rfl (or_copy_cl (f := u8) rfl rfl (Rd.slaAll hm6.h1 sD) uT26 ti5 u8_one hm6.h0 sD sD (Nat.le_refl _)) ?_
   rintro _ w8 ⟨rfl, uq8⟩
   have hm8 : Mem w8 (restOf w0) ([(b14, .cells (cl u8 ((sumP l) ++ (List.replicate 64 (0 : BitVec 8)).drop (sumP l).length)) 5 (0, 0)), (b5, .cells (cl u8 (sumP l)) 23 (0, 0))]) := hm6.upd0 uq8
   refine rN (cw_seq (cw_seq ?_))
   have hBl : ((sumP l) ++ (List.replicate 64 (0 : BitVec 8)).drop (sumP l).length).length = 64 := by simp; try omega
   refine cw_region <| rM rfl s6 <| rw_q (v := (i64 64)) rfl (ev_len_sl uT26 rfl) <| rw_q rfl (ev_move (v := (i64 0)) rfl) ?_
   refine rN (cw_block ?_)
   refine cw_loop (fun g wv => ∃ (k : Nat), (k ≤ 64) ∧ g 0 = (sla b5 0 1 0 32 32) ∧ g 1 = (u8 bb) ∧ g 4 = (Value.slice none 0 0) ∧ g 5 = (ptr b5 0) ∧ g 6 = (slc b14 0 64 64) ∧ g 10 = (bl (decide (64 < (l.length : Int)))) ∧ g 19 = (i64 64) ∧ g 20 = (i64 (k : Int)) ∧ Mem wv (restOf w0) ([(b14, .cells (cl u8 (overlaid (fun i => ((sumP l) ++ (List.replicate 64 (0 : BitVec 8)).drop (sumP l).length).getD i 0 ^^^ bb) ((sumP l) ++ (List.replicate 64 (0 : BitVec 8)).drop (sumP l).length) k)) 5 (0, 0)), (b5, .cells (cl u8 (sumP l)) 23 (0, 0))])) (fun g wv => (64 - RowKit.intOf (g 20)).toNat) ?_ ?_
   · exact ⟨0, oM, s0, s1, s4, s5, s6, s10, rfl, rfl, (by rw [overlaid_zero]; exact hm8)⟩
   · rintro fr9 w10 ⟨k, hk, s0, s1, s4, s5, s6, s10, s19, s20, hm10⟩
     have z20 := s20
     have hol := overlaid_length (fun i => ((sumP l) ++ (List.replicate 64 (0 : BitVec 8)).drop (sumP l).length).getD i 0 ^^^ bb) ((sumP l) ++ (List.replicate 64 (0 : BitVec 8)).drop (sumP l).length) k oM
     refine sR <| rw_q rfl (ev_i64_lss (b := 64) s20 s19) ?_
     refine rN (cw_seq ?_)
     refine cw_cond rfl (fun hc11 => ?_) (fun hc11 => ?_)
     · -- true
       have hc11p := of_decide_eq_true hc11
       refine cw_skip (kThen_normal (cw_seq (cw_block (sR ?_))))
       refine rM rfl s20 <| rw_q rfl (ev_assign (v := (i64 (k : Int))) rfl) ?_
       refine rN (cw_region ?_)
       refine rM rfl s6 <| rw_q rfl (ev_move (v := (i64 (k : Int))) rfl) <| rw_q rfl (ev_ia_slc (r := k) oM uT26 ti5 rfl rfl oM sD) <| rw_q (v := (u8 ((overlaid (fun i => ((sumP l) ++ (List.replicate 64 (0 : BitVec 8)).drop (sumP l).length).getD i 0 ^^^ bb) ((sumP l) ++ (List.replicate 64 (0 : BitVec 8)).drop (sumP l).length) k).getD k 0))) rfl (ev_load1 uT5 rfl rfl hm10.h0 (get_clD _ _ 0 sD)) <| rM rfl s1 <| rw_q rfl (ev_u8_xor rfl rfl) ?_
       refine rw_q rfl (ev_ia_slc (r := k) oM uT26 ti5 rfl rfl oM sD) <| rw_n (or_store_cl (f := u8) (a := ((overlaid (fun i => ((sumP l) ++ (List.replicate 64 (0 : BitVec 8)).drop (sumP l).length).getD i 0 ^^^ bb) ((sumP l) ++ (List.replicate 64 (0 : BitVec 8)).drop (sumP l).length) k).getD k 0) ^^^ bb) u8_one ti5 rfl rfl hm10.h0 sD (.inl (Nat.zero_le _))) ?_
       rintro _ w12 uq12
       have hm12 := hm10.upd0 uq12
       refine rw_nil (kBlk_normal (cw_region ?_))
       refine rw_q rfl (ev_i64_add (b := 1) s20 rfl oM oM) <| rw_q rfl (ev_move (v := (i64 ((k : Int) + 1))) rfl) <| rN ?_
       exact ⟨⟨k + 1, oM, s0, s1, s4, s5, s6, s10, s19, rfl, (by rw [← overlaid_set _ _ _ oM _ rfl, ← overlaid_get (fun i => ((sumP l) ++ (List.replicate 64 (0 : BitVec 8)).drop (sumP l).length).getD i 0 ^^^ bb) ((sumP l) ++ (List.replicate 64 (0 : BitVec 8)).drop (sumP l).length) k 0]; exact hm12)⟩, meas rfl z20 oM oM⟩
     · -- false
       have hc11p := of_decide_eq_false hc11
       obtain rfl : k = 64 := by omega
       refine cw_exit ?_
       refine kThen_exit (kThen_exit (kBlk_hit ?_))
       refine sR <| rM rfl s6 <| rw_q rfl (ev_assign (v := (slc b14 0 64 64)) rfl) ?_
       refine rN (cw_ret ?_)
       refine fnPost_ret [(slc b14 0 64 64)] ⟨rfl, trivial⟩ ?_
       have hK : keyP l = sumP l := by unfold keyP; rw [if_pos oM]
       have hmk := mask_told (bb := bb) hK
       have hm13 := Mem.drop ([(b5, .cells (cl u8 (sumP l)) 23 (0, 0))]) _ (Mem.pick [_] [_] _ hm10)
       exact ⟨b14, by rw [maskedP_length]; rfl, hmk ▸ hm13⟩
 · -- false
   have hc1p := of_decide_eq_false hc1
   refine cw_skip (kThen_normal (sR ?_))
   refine rw_c rfl (or_makeSlice hm0 uT26 ti5 rfl rfl oM oM oM oM) ?_
   rintro _ w14 ⟨b14_1, rfl, _ew14, hm14⟩
   rw [rep_cells u8 0 rfl] at hm14
   have hm14 : Mem w14 (restOf w0) [(b14_1, .cells (cl u8 (List.replicate 64 (0 : BitVec 8))) 5 (0, 0))] := hm14
   refine rw_q rfl (ev_assign (v := (slc b14_1 0 64 64)) rfl) ?_
   refine rN (sR ?_)
   refine rw_q rfl (ev_move (v := (slc b14_1 0 64 64)) rfl) <| rM rfl (v := vb) rfl <| rw_c rfl (or_copy_cl (f := u8) rfl rfl (Rd.ofRest hr hm14) uT26 ti5 u8_one hm14.h0 sD sD (Nat.le_refl _)) ?_
   rintro _ w15 ⟨rfl, uq15⟩
   have hm15 : Mem w15 (restOf w0) ([(b14_1, .cells (cl u8 (l ++ (List.replicate 64 (0 : BitVec 8)).drop l.length)) 5 (0, 0))]) := hm14.upd0 uq15
   refine rN (cw_seq (cw_seq ?_))
   have hBl : (l ++ (List.replicate 64 (0 : BitVec 8)).drop l.length).length = 64 := by simp; try omega
   refine cw_region <| rw_q rfl (ev_move (v := (slc b14_1 0 64 64)) rfl) <| rw_q (v := (i64 64)) rfl (ev_len_sl uT26 rfl) <| rw_q rfl (ev_move (v := (i64 0)) rfl) <| rN ?_
   refine CW.abs (fun g => g 0 = vb ∧ g 1 = (u8 bb) ∧ g 4 = (Value.slice none 0 0) ∧ g 6 = (slc b14_1 0 64 64) ∧ g 10 = (bl (decide (64 < (l.length : Int)))) ∧ g 19 = (i64 64) ∧ g 20 = (i64 0) ∧ True) ⟨rfl, rfl, rfl, rfl, rfl, rfl, rfl, trivial⟩ ?_
   rintro fr16 ⟨s0, s1, s4, s6, s10, s19, s20, _⟩
   refine cw_block ?_
   refine cw_loop (fun g wv => ∃ (k : Nat), (k ≤ 64) ∧ g 0 = vb ∧ g 1 = (u8 bb) ∧ g 4 = (Value.slice none 0 0) ∧ g 6 = (slc b14_1 0 64 64) ∧ g 10 = (bl (decide (64 < (l.length : Int)))) ∧ g 19 = (i64 64) ∧ g 20 = (i64 (k : Int)) ∧ Mem wv (restOf w0) ([(b14_1, .cells (cl u8 (overlaid (fun i => (l ++ (List.replicate 64 (0 : BitVec 8)).drop l.length).getD i 0 ^^^ bb) (l ++ (List.replicate 64 (0 : BitVec 8)).drop l.length) k)) 5 (0, 0))])) (fun g wv => (64 - RowKit.intOf (g 20)).toNat) ?_ ?_
   · exact ⟨0, oM, s0, s1, s4, s6, s10, s19, s20, (by rw [overlaid_zero]; exact hm15)⟩
   · rintro fr17 w18 ⟨k, hk, s0, s1, s4, s6, s10, s19, s20, hm18⟩
     have z20 := s20
     have hol := overlaid_length (fun i => (l ++ (List.replicate 64 (0 : BitVec 8)).drop l.length).getD i 0 ^^^ bb) (l ++ (List.replicate 64 (0 : BitVec 8)).drop l.length) k oM
     refine sR <| rw_q rfl (ev_i64_lss (b := 64) s20 s19) ?_
     refine rN (cw_seq ?_)
     refine cw_cond rfl (fun hc19 => ?_) (fun hc19 => ?_)
     · -- true
       have hc19p := of_decide_eq_true hc19
       refine cw_skip (kThen_normal (cw_seq (cw_block (sR ?_))))
       refine rM rfl s20 <| rw_q rfl (ev_assign (v := (i64 (k : Int))) rfl) ?_
       refine rN (cw_region ?_)
       refine rM rfl s6 <| rw_q rfl (ev_move (v := (i64 (k : Int))) rfl) <| rw_q rfl (ev_ia_slc (r := k) oM uT26 ti5 rfl rfl oM sD) <| rw_q (v := (u8 ((overlaid (fun i => (l ++ (List.replicate 64 (0 : BitVec 8)).drop l.length).getD i 0 ^^^ bb) (l ++ (List.replicate 64 (0 : BitVec 8)).drop l.length) k).getD k 0))) rfl (ev_load1 uT5 rfl rfl hm18.h0 (get_clD _ _ 0 sD)) <| rM rfl s1 <| rw_q rfl (ev_u8_xor rfl rfl) ?_
       refine rw_q rfl (ev_ia_slc (r := k) oM uT26 ti5 rfl rfl oM sD) <| rw_n (or_store_cl (f := u8) (a := ((overlaid (fun i => (l ++ (List.replicate 64 (0 : BitVec 8)).drop l.length).getD i 0 ^^^ bb) (l ++ (List.replicate 64 (0 : BitVec 8)).drop l.length) k).getD k 0) ^^^ bb) u8_one ti5 rfl rfl hm18.h0 sD (.inl (Nat.zero_le _))) ?_
       rintro _ w20 uq20
       have hm20 := hm18.upd0 uq20
       refine rw_nil (kBlk_normal (cw_region ?_))
       refine rw_q rfl (ev_i64_add (b := 1) s20 rfl oM oM) <| rw_q rfl (ev_move (v := (i64 ((k : Int) + 1))) rfl) <| rN ?_
       exact ⟨⟨k + 1, oM, s0, s1, s4, s6, s10, s19, rfl, (by rw [← overlaid_set _ _ _ oM _ rfl, ← overlaid_get (fun i => (l ++ (List.replicate 64 (0 : BitVec 8)).drop l.length).getD i 0 ^^^ bb) (l ++ (List.replicate 64 (0 : BitVec 8)).drop l.length) k 0]; exact hm20)⟩, meas rfl z20 oM oM⟩
     · -- false
       have hc19p := of_decide_eq_false hc19
       obtain rfl : k = 64 := by omega
       refine cw_exit ?_
       refine kThen_exit (kThen_exit (kBlk_hit ?_))
       refine sR <| rM rfl s6 <| rw_q rfl (ev_assign (v := (slc b14_1 0 64 64)) rfl) ?_
       refine rN (cw_ret ?_)
       refine fnPost_ret [(slc b14_1 0 64 64)] ⟨rfl, trivial⟩ ?_
       have hK : keyP l = l := by unfold keyP; rw [if_neg oM]
       have hmk := mask_told (bb := bb) hK
       exact ⟨b14_1, by rw [maskedP_length]; rfl, hmk ▸ hm18⟩

set_option maxHeartbeats 1000000 in
theorem c_hmac (vb : Value) (l : List (BitVec 8)) (vp : Value) (ps : List (Value × List (BitVec 8))) (w0 : World)  (hT : Tabs (blks w0)) (hr : Rd (blks w0) u8 vb l) (hl : l.length ≤ 1099511627776) (hrp : Rd (blks w0) Prod.fst vp ps) (hps : ∀ p ∈ ps, Rd (blks w0) u8 p.1 p.2) (hpl : (joinL ps).length ≤ 1099511627776) (hpn : ps.length ≤ 1099511627776) : CallsR Tryd.prog 28 #[vb, vp] w0 (fun r w1 => r = (agg u8 (hmacP l (joinL ps))) ∧ Ext w0 w1) := by
 refine callsR_of_cw (args := [vb, vp]) Tryd.func28 rfl Tryd.ntmps28 Tryd.results28 rfl ?_
 have hm0 : Mem w0 (restOf w0) [] := Mem.of_world w0
 refine sR <| rw_c rfl (or_alloc_agg hm0 ti23) ?_
 rintro _ w1 ⟨b4, rfl, _ew1, hm1⟩
 refine rN (sR ?_)
 refine rw_c rfl (opR_call Tryd.func41 bd41 nm41 (args0) (c_hnew _ (hT.mono fun b o e => (hm1).rest b o e))) ?_
 rintro _ w2 ⟨bq3, rfl, k_w2⟩
 have hm2 : Mem w2 (restOf w0) [(bq3, .cells #[(u32 1779033703#32), (u32 3144134277#32), (u32 1013904242#32), (u32 2773480762#32), (u32 1359893119#32), (u32 2600822924#32), (u32 528734635#32), (u32 1541459225#32), (Value.slice none 0 0), (u64 0#64)] 96 (0, 0)), (b4, .cells (cl u8 (List.replicate 32 0)) 23 (0, 0))] := Mem.new (H := [(b4, .cells (cl u8 (List.replicate 32 0)) 23 (0, 0))]) (H' := [(bq3, .cells #[(u32 1779033703#32), (u32 3144134277#32), (u32 1013904242#32), (u32 2773480762#32), (u32 1359893119#32), (u32 2600822924#32), (u32 528734635#32), (u32 1541459225#32), (Value.slice none 0 0), (u64 0#64)] 96 (0, 0))]) hm1 k_w2
 refine rw_q rfl (ev_assign (v := (ptr bq3 0)) rfl) ?_
 refine rN (sR ?_)
 refine rw_q rfl (ev_move (v := (ptr bq3 0)) rfl) <| rM rfl (v := vb) rfl <| rw_c rfl (opR_call Tryd.func43 bd43 nm43 (args2 rfl rfl) (c_masked vb l 54#8 _ (hT.mono fun b o e => (hm2).rest b o e) (Rd.ofRest hr hm2) sD)) ?_
 rintro _ w4 ⟨bq5, rfl, k_w4⟩
 have hm4 : Mem w4 (restOf w0) [(bq5, .cells (cl u8 (maskedP l 54#8)) 5 (0, 0)), (bq3, .cells #[(u32 1779033703#32), (u32 3144134277#32), (u32 1013904242#32), (u32 2773480762#32), (u32 1359893119#32), (u32 2600822924#32), (u32 528734635#32), (u32 1541459225#32), (Value.slice none 0 0), (u64 0#64)] 96 (0, 0)), (b4, .cells (cl u8 (List.replicate 32 0)) 23 (0, 0))] := Mem.new (H := [(bq3, .cells #[(u32 1779033703#32), (u32 3144134277#32), (u32 1013904242#32), (u32 2773480762#32), (u32 1359893119#32), (u32 2600822924#32), (u32 528734635#32), (u32 1541459225#32), (Value.slice none 0 0), (u64 0#64)] 96 (0, 0)), (b4, .cells (cl u8 (List.replicate 32 0)) 23 (0, 0))]) (H' := [(bq5, .cells (cl u8 (maskedP l 54#8)) 5 (0, 0))]) hm2 k_w4
 have hF7 : Mem w4 (restOf w0) (([(bq3, .cells #[(u32 1779033703#32), (u32 3144134277#32), (u32 1013904242#32), (u32 2773480762#32), (u32 1359893119#32), (u32 2600822924#32), (u32 528734635#32), (u32 1541459225#32), (Value.slice none 0 0), (u64 0#64)] 96 (0, 0))] ++ ([] ++ ([]))) ++ ([(bq5, .cells (cl u8 (maskedP l 54#8)) 5 (0, 0)), (b4, .cells (cl u8 (List.replicate 32 0)) 23 (0, 0))])) := by
   have hT := (Mem.pick [_] [_] _ hm4)
   try simp only [List.append_assoc, List.cons_append, List.nil_append, List.append_nil] at hT ⊢
   exact hT
 refine rw_c rfl (opR_call Tryd.func42 bd42 nm42 (args2 rfl rfl) (c_write bq3 1779033703#32 3144134277#32 1013904242#32 2773480762#32 1359893119#32 2600822924#32 528734635#32 1541459225#32 (Value.slice none 0 0) ([]) ([]) 0#64 (slc bq5 0 ((maskedP l 54#8).length) ((maskedP l 54#8).length)) (maskedP l 54#8) _ _ (Mem.give hF7) (hT.mono fun b o e => Mem.addRest hF7 e) (Rd.mkA (Mem.addOwn hF7 (List.Mem.head _))) (Grow.none u8 5) sD)) ?_
 rintro _ w6 ⟨y0q8, y1q8, y2q8, y3q8, y4q8, y5q8, y6q8, y7q8, sv2q8, Hs2q8, hyq8, gl2q8, k_w6⟩
 have hm6 : Mem w6 (restOf w0) ([(bq3, .cells #[(u32 y0q8), (u32 y1q8), (u32 y2q8), (u32 y3q8), (u32 y4q8), (u32 y5q8), (u32 y6q8), (u32 y7q8), sv2q8, (u64 (0#64 + BitVec.ofInt 64 ((maskedP l 54#8).length : Int)))] 96 (0, 0))] ++ (Hs2q8 ++ ([(bq5, .cells (cl u8 (maskedP l 54#8)) 5 (0, 0)), (b4, .cells (cl u8 (List.replicate 32 0)) 23 (0, 0))]))) := (by
   have hT := Mem.back hF7 k_w6
   try simp only [List.append_assoc, List.cons_append, List.nil_append, List.append_nil] at hT ⊢
   exact hT)
 have hH0 := Holds.new.write hyq8
 refine rN (cw_seq (sR ?_))
 refine rM rfl (v := vp) rfl <| rw_q (v := (i64 (ps.length : Int))) rfl (ev_len_rd (Rd.ofRest hrp hm6) uT71 rfl) <| rw_q rfl (ev_move (v := (i64 0)) rfl) ?_
 refine rN (cw_block ?_)
 refine cw_loop (fun g wv => ∃ (k : Nat) (z0 z1 z2 z3 z4 z5 z6 z7 : BitVec 32) (sv3 : Value) (l3 : List (BitVec 8)) (Hs3 : List (Nat × Obj)) (nn : BitVec 64), (k ≤ ps.length) ∧ (Holds (maskedP l 54#8 ++ joinL (ps.take k)) [z0, z1, z2, z3, z4, z5, z6, z7] l3 nn) ∧ (Grow u8 5 sv3 l3 Hs3) ∧ g 0 = vb ∧ g 1 = vp ∧ g 4 = (ptr b4 0) ∧ g 5 = (ptr bq3 0) ∧ g 14 = vp ∧ g 15 = (i64 (ps.length : Int)) ∧ g 16 = (i64 (k : Int)) ∧ Mem wv (restOf w0) ([(bq3, .cells #[(u32 z0), (u32 z1), (u32 z2), (u32 z3), (u32 z4), (u32 z5), (u32 z6), (u32 z7), sv3, (u64 nn)] 96 (0, 0))] ++ (Hs3 ++ ([(bq5, .cells (cl u8 (maskedP l 54#8)) 5 (0, 0)), (b4, .cells (cl u8 (List.replicate 32 0)) 23 (0, 0))])))) (fun g wv => ((ps.length : Int) - RowKit.intOf (g 16)).toNat) ?_ ?_
 · exact ⟨0, y0q8, y1q8, y2q8, y3q8, y4q8, y5q8, y6q8, y7q8, sv2q8, ((([]) ++ (maskedP l 54#8)).drop (64 * ((([]) ++ (maskedP l 54#8)).length / 64))), Hs2q8, (0#64 + BitVec.ofInt 64 ((maskedP l 54#8).length : Int)), oM, (by simpa [joinL] using hH0), gl2q8, rfl, rfl, rfl, rfl, rfl, rfl, rfl, hm6⟩
 · rintro fr9 w10 ⟨k, z0, z1, z2, z3, z4, z5, z6, z7, sv3, l3, Hs3, nn, hk, hH, gl3, s0, s1, s4, s5, s14, s15, s16, hm10⟩
   have z16 := s16
   have hlt := hH.lt
   have hpk := joinL_le ps k
   refine sR <| rw_q rfl (ev_i64_lss s16 s15) ?_
   refine rN (cw_seq ?_)
   refine cw_cond rfl (fun hc11 => ?_) (fun hc11 => ?_)
   · -- true
     have hc11p := of_decide_eq_true hc11
     refine cw_skip (kThen_normal (cw_seq (cw_block (sR ?_))))
     refine rw_q rfl (ev_indexAddr_rdv (Rd.ofRest hrp hm10) uT71 ti26 s14 s16 oM sD) <| rw_q (v := ((ps.getD k (undef, [])).1)) rfl (ev_load_rdD (l := ps) (i := (k : Int)) (dflt := (undef, [])) (Rd.ofRest hrp hm10) uT26 rfl oM sD rfl) <| rw_q rfl (ev_assign (v := ((ps.getD k (undef, [])).1)) rfl) ?_
     refine rN (cw_region ?_)
     refine rM rfl s5 <| rw_q rfl (ev_move (v := ((ps.getD k (undef, [])).1)) rfl) ?_
     have hF13 : Mem w10 (restOf w0) (([(bq3, .cells #[(u32 z0), (u32 z1), (u32 z2), (u32 z3), (u32 z4), (u32 z5), (u32 z6), (u32 z7), sv3, (u64 nn)] 96 (0, 0))] ++ (Hs3 ++ ([]))) ++ ([(bq5, .cells (cl u8 (maskedP l 54#8)) 5 (0, 0)), (b4, .cells (cl u8 (List.replicate 32 0)) 23 (0, 0))])) := by
       have hT := (Mem.pick Hs3 [_] _ (Mem.pick [_] Hs3 _ hm10))
       try simp only [List.append_assoc, List.cons_append, List.nil_append, List.append_nil] at hT ⊢
       exact hT
     refine rw_c rfl (opR_call Tryd.func42 bd42 nm42 (args2 rfl rfl) (c_write bq3 z0 z1 z2 z3 z4 z5 z6 z7 sv3 l3 Hs3 nn ((ps.getD k (undef, [])).1) ((ps.getD k (undef, [])).2) _ _ (Mem.give hF13) (hT.mono fun b o e => Mem.addRest hF13 e) (Rd.addRest hF13 (hps _ (getD_in (z := (undef, [])) oM))) gl3 sD)) ?_
     rintro _ w12 ⟨y0q14, y1q14, y2q14, y3q14, y4q14, y5q14, y6q14, y7q14, sv2q14, Hs2q14, hyq14, gl2q14, k_w12⟩
     have hm12 : Mem w12 (restOf w0) ([(bq3, .cells #[(u32 y0q14), (u32 y1q14), (u32 y2q14), (u32 y3q14), (u32 y4q14), (u32 y5q14), (u32 y6q14), (u32 y7q14), sv2q14, (u64 (nn + BitVec.ofInt 64 (((ps.getD k (undef, [])).2).length : Int)))] 96 (0, 0))] ++ (Hs2q14 ++ ([(bq5, .cells (cl u8 (maskedP l 54#8)) 5 (0, 0)), (b4, .cells (cl u8 (List.replicate 32 0)) 23 (0, 0))]))) := (by
       have hT := Mem.back hF13 k_w12
       try simp only [List.append_assoc, List.cons_append, List.nil_append, List.append_nil] at hT ⊢
       exact hT)
     refine rw_nil (kBlk_normal (cw_region ?_))
     refine rw_q rfl (ev_i64_add (b := 1) s16 rfl oM oM) <| rw_q rfl (ev_move (v := (i64 ((k : Int) + 1))) rfl) <| rN ?_
     have hHn := hH.write hyq14
     rw [List.append_assoc, ← joinL_succ ps k oM] at hHn
     exact ⟨⟨k + 1, y0q14, y1q14, y2q14, y3q14, y4q14, y5q14, y6q14, y7q14, sv2q14, ((l3 ++ ((ps.getD k (undef, [])).2)).drop (64 * ((l3 ++ ((ps.getD k (undef, [])).2)).length / 64))), Hs2q14, (nn + BitVec.ofInt 64 (((ps.getD k (undef, [])).2).length : Int)), oM, hHn, gl2q14, s0, s1, s4, s5, s14, s15, rfl, hm12⟩, meas rfl z16 oM oM⟩
   · -- false
     have hc11p := of_decide_eq_false hc11
     obtain rfl : k = ps.length := by omega
     rw [List.take_length] at hH
     have hlt := hH.lt
     refine cw_exit ?_
     refine kThen_exit (kThen_exit (kBlk_hit ?_))
     refine sR <| rM rfl s5 <| rw_c rfl (opR_call Tryd.func44 bd44 nm44 (args1 rfl) (c_dsum bq3 z0 z1 z2 z3 z4 z5 z6 z7 sv3 l3 nn _ (hT.mono fun b o e => (hm10).rest b o e) hm10.h0 (gl3.rd (Mem.pick [_] Hs3 _ hm10)) sD)) ?_
     rintro _ w15 ⟨rfl, _ew15⟩
     have hm15 := hm10.ext _ew15
     refine rw_c rfl (or_alloc_agg hm15 ti23) ?_
     rintro _ w17 ⟨b8, rfl, _ew17, hm17⟩
     refine rw_n (or_store_agg (f := u8) (l := digestP [z0, z1, z2, z3, z4, z5, z6, z7] l3 nn) u8_one ti23 rfl rfl sD hm17.h0 sZ rfl) ?_
     rintro _ w18 uq18
     have hm18 := hm17.upd0 uq18
     refine rN (cw_seq ?_)
     refine cw_draw [(0, false), (2, false), (1, true)] 3 (by kernel_rfl) <| dM rfl rfl s0 <| dw_q rfl rfl (fun _ _hx => ev_slice_sla (i := 0) (j := 32) uT23 ti5 rfl (optI_none _ _) (optI_none _ _) oM sD sD) ?_
     refine dw_c rfl rfl (fun w19 _ew19 => ?_)
     have hm19 := hm18.ext _ew19
     refine OpR.mono (opR_call Tryd.func43 bd43 nm43 (args2 rfl rfl) (c_masked vb l 92#8 _ (hT.mono fun b o e => (hm19).rest b o e) (Rd.ofRest hr hm19) sD)) ?_
     rintro _ w20 ⟨bq21, rfl, k_w20⟩
     refine ⟨k_w20.toExt, ?_⟩
     have hm20 : Mem w20 (restOf w0) ([(bq21, .cells (cl u8 (maskedP l 92#8)) 5 (0, 0)), (b8, .cells (cl u8 (digestP [z0, z1, z2, z3, z4, z5, z6, z7] l3 nn)) 23 (0, 0)), (bq3, .cells #[(u32 z0), (u32 z1), (u32 z2), (u32 z3), (u32 z4), (u32 z5), (u32 z6), (u32 z7), sv3, (u64 nn)] 96 (0, 0))] ++ (Hs3 ++ ([(bq5, .cells (cl u8 (maskedP l 54#8)) 5 (0, 0)), (b4, .cells (cl u8 (List.replicate 32 0)) 23 (0, 0))]))) := Mem.new (H := [(b8, .cells (cl u8 (digestP [z0, z1, z2, z3, z4, z5, z6, z7] l3 nn)) 23 (0, 0)), (bq3, .cells #[(u32 z0), (u32 z1), (u32 z2), (u32 z3), (u32 z4), (u32 z5), (u32 z6), (u32 z7), sv3, (u64 nn)] 96 (0, 0))] ++ (Hs3 ++ ([(bq5, .cells (cl u8 (maskedP l 54#8)) 5 (0, 0)), (b4, .cells (cl u8 (List.replicate 32 0)) 23 (0, 0))]))) (H' := [(bq21, .cells (cl u8 (maskedP l 92#8)) 5 (0, 0))]) hm19 k_w20
     refine dw_nil (fun w22 _ew22 => ?_)
     have hm22 := hm20.ext _ew22
     refine rw_c rfl (or_append (f := u8) (Hs := [(bq21, .cells (cl u8 (maskedP l 92#8)) 5 (0, 0))]) (H := [(b8, .cells (cl u8 (digestP [z0, z1, z2, z3, z4, z5, z6, z7] l3 nn)) 23 (0, 0)), (bq3, .cells #[(u32 z0), (u32 z1), (u32 z2), (u32 z3), (u32 z4), (u32 z5), (u32 z6), (u32 z7), sv3, (u64 nn)] 96 (0, 0))] ++ (Hs3 ++ ([(bq5, .cells (cl u8 (maskedP l 54#8)) 5 (0, 0)), (b4, .cells (cl u8 (List.replicate 32 0)) 23 (0, 0))]))) hm22 (Grow.of u8 5 bq21 (maskedP l 92#8)) rfl rfl (Rd.slaAll hm22.h1 sD) uT26 uT26 ti5 rfl u8_one sD sD) ?_
     rintro sv23 w23 ⟨Hs23, hm23, g23⟩
     replace g23 : Grow u8 5 sv23 ((maskedP l 92#8) ++ (digestP [z0, z1, z2, z3, z4, z5, z6, z7] l3 nn)) Hs23 := g23
     refine rw_c rfl (opR_call Tryd.func45 bd45 nm45 (args1 rfl) (c_hsum sv23 ((maskedP l 92#8) ++ (digestP [z0, z1, z2, z3, z4, z5, z6, z7] l3 nn)) _ (hT.mono fun b o e => (hm23).rest b o e) (g23.rd hm23) sD)) ?_
     rintro _ w24 ⟨rfl, _ew24⟩
     have hm24 := hm23.ext _ew24
     refine rw_n (or_store_agg (f := u8) (l := sumP ((maskedP l 92#8) ++ (digestP [z0, z1, z2, z3, z4, z5, z6, z7] l3 nn))) u8_one ti23 s4 rfl sD ((Mem.pick4 Hs23 [_, _] Hs3 [_] [_] _ hm24)).h0 sZ rfl) ?_
     rintro _ w26 uq26
     have hm26 : Mem w26 (restOf w0) ([(b4, .cells (cl u8 (sumP ((maskedP l 92#8) ++ (digestP [z0, z1, z2, z3, z4, z5, z6, z7] l3 nn)))) 23 (0, 0))] ++ (Hs23 ++ ([(b8, .cells (cl u8 (digestP [z0, z1, z2, z3, z4, z5, z6, z7] l3 nn)) 23 (0, 0)), (bq3, .cells #[(u32 z0), (u32 z1), (u32 z2), (u32 z3), (u32 z4), (u32 z5), (u32 z6), (u32 z7), sv3, (u64 nn)] 96 (0, 0))] ++ (Hs3 ++ ([(bq5, .cells (cl u8 (maskedP l 54#8)) 5 (0, 0))]))))) := Mem.upd0 (Mem.pick4 Hs23 [_, _] Hs3 [_] [_] _ hm24) uq26
     refine rN (cw_ret ?_)
     refine fnPost_ret [(agg u8 (sumP ((maskedP l 92#8) ++ (digestP [z0, z1, z2, z3, z4, z5, z6, z7] l3 nn))))] ⟨⟨_, s4, loadVar_run uT23 rfl ti23 hm26.h0 sZ⟩, trivial⟩ ?_
     exact ⟨congrArg (agg u8) (by unfold hmacP; rw [hH.sum]), hm26.toExt⟩


end Go.Proofs.YtmiagmbgfhakgaaDoor

